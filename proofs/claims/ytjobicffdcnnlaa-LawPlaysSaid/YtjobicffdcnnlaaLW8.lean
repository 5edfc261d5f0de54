import Derived.Test.YtjobicffdcnnlaaK3
import Derived.Test.YtjobicffdcnnlaaQ7
import Derived.Test.YtjobicffdcnnlaaU2
import Derived.Test.YtjobicffdcnnlaaV4
import Derived.Test.YtjobicffdcnnlaaW2
/- The law's block, with calm's and policy's; Count. -/
namespace Go.Proofs.Ytjobicffdcnnlaa
open Go.RowKit
set_option linter.unusedSimpArgs false
set_option linter.unusedVariables false
set_option maxRecDepth 100000

def lawAt (c : CF) (n : Int) (q p : Nat) (e : Int) (i : Nat) : Option Value := (#[.int .i64 c.n, .int .i64 c.f, .int .i64 c.m, .int .i64 c.q, .int .i64 c.fresh, .int .i64 c.grace, .int .i64 c.window, .int .i64 c.t0, .int .i64 c.t1, .int .i64 c.t2, .int .i64 c.t3, .int .i64 c.tol, .int .i64 c.lo, .int .i64 c.hi, .int .i64 c.cup, .int .i64 c.cdn, .int .i64 c.pup, .int .i64 c.tup, .int .i64 c.pdn, .int .i64 c.tdn, .int .i64 c.per, .int .i64 c.far, .int .i64 c.str, .int .i64 c.pro, .int .i64 c.sec, .int .u64 c.seed, .int .i64 n, .pointer (some ⟨q, 0, none⟩), .pointer (some ⟨p, 0, none⟩), .int .i64 e] : Array Value)[i]?
@[go_sem] theorem lawAt_2 (c : CF) (n : Int) (q p : Nat) (e : Int) : lawAt c n q p e 2 = some (.int .i64 c.m) := rfl
@[go_sem] theorem lawAt_11 (c : CF) (n : Int) (q p : Nat) (e : Int) : lawAt c n q p e 11 = some (.int .i64 c.tol) := rfl
@[go_sem] theorem lawAt_26 (c : CF) (n : Int) (q p : Nat) (e : Int) : lawAt c n q p e 26 = some (.int .i64 n) := rfl
@[go_sem] theorem lawAt_27 (c : CF) (n : Int) (q p : Nat) (e : Int) : lawAt c n q p e 27 = some (.pointer (some ⟨q, 0, none⟩)) := rfl
@[go_sem] theorem lawAt_28 (c : CF) (n : Int) (q p : Nat) (e : Int) : lawAt c n q p e 28 = some (.pointer (some ⟨p, 0, none⟩)) := rfl
@[go_sem] theorem lawAt_29 (c : CF) (n : Int) (q p : Nat) (e : Int) : lawAt c n q p e 29 = some (.int .i64 e) := rfl
/-- The law's own block. -/
structure Lb (w : World) (b : Nat) (c : CF) (n : Int) (q p : Nat) (e : Int) : Prop where mk ::
  box : w.heap[b]? = some (.cells #[.int .i64 c.n, .int .i64 c.f, .int .i64 c.m, .int .i64 c.q, .int .i64 c.fresh, .int .i64 c.grace, .int .i64 c.window, .int .i64 c.t0, .int .i64 c.t1, .int .i64 c.t2, .int .i64 c.t3, .int .i64 c.tol, .int .i64 c.lo, .int .i64 c.hi, .int .i64 c.cup, .int .i64 c.cdn, .int .i64 c.pup, .int .i64 c.tup, .int .i64 c.pdn, .int .i64 c.tdn, .int .i64 c.per, .int .i64 c.far, .int .i64 c.str, .int .i64 c.pro, .int .i64 c.sec, .int .u64 c.seed, .int .i64 n, .pointer (some ⟨q, 0, none⟩), .pointer (some ⟨p, 0, none⟩), .int .i64 e] 120)
theorem Lb.cell {w : World} {b : Nat} {c : CF} {n : Int} {q p : Nat} {e : Int} (h : Lb w b c n q p e) (off : Nat) : w.cell? ⟨b, off, none⟩ = lawAt c n q p e off := by
  simp [World.cell?, h.box, lawAt]
theorem Lb.froz {w : World} {b : Nat} {c : CF} {n : Int} {q p : Nat} {e : Int} (h : Lb w b c n q p e) (off : Nat) : w.frozen? ⟨b, off, none⟩ = false := frozen_in h.box
theorem Lb.lt {w : World} {b : Nat} {c : CF} {n : Int} {q p : Nat} {e : Int} (h : Lb w b c n q p e) : b < w.heap.size := (Array.getElem?_eq_some_iff.1 h.box).1
theorem Lb.on {w w' : World} {b : Nat} {c : CF} {n : Int} {q p : Nat} {e : Int} (h : Lb w b c n q p e) (r : Gr w w') : Lb w' b c n q p e := ⟨r.block h.box⟩
theorem Lb.other {w w' : World} {b : Nat} {c : CF} {n : Int} {q p : Nat} {e : Int} {x y : Nat} (h : Lb w b c n q p e) (t : Tc x y w w') (h1 : b ≠ x) (h2 : b ≠ y) : Lb w' b c n q p e := ⟨(t.block b h.lt h1 h2).trans h.box⟩
theorem Lb.setN {w : World} {b : Nat} {c : CF} {n : Int} {q p : Nat} {e : Int} (h : Lb w b c n q p e) (n' : Int) : Lb (w.setCell ⟨b, 26, none⟩ (.int .i64 n')) b c n' q p e := ⟨set_block h.box⟩
theorem Lb.setE {w : World} {b : Nat} {c : CF} {n : Int} {q p : Nat} {e : Int} (h : Lb w b c n q p e) (e' : Int) : Lb (w.setCell ⟨b, 29, none⟩ (.int .i64 e')) b c n q p e' := ⟨set_block h.box⟩
theorem count_any {w : World} {b : Nat} {c : CF} {n : Int} {q p : Nat} {e : Int} (h : Lb w b c n q p e) : Calls Try.prog 60 #[.pointer (some ⟨b, 0, none⟩)] w fun x w' => x = .returned (.int .i64 n) ∧ w = w' := by
  have hc := h.cell
  clear h
  go_enter Try.func60, Try.ntmps60
  go_wp2
  go_ret
  exact ⟨rfl, rfl⟩
end Go.Proofs.Ytjobicffdcnnlaa
/- The plain law of the law: an epoch, a hold; what rises, what stays. -/
namespace Go.Proofs.Ytjobicffdcnnlaa
open Go Go.RowKit
set_option linter.unusedSimpArgs false
set_option linter.unusedVariables false

theorem maxT_mono {s t : List Int} (h : LeL s t) : ∀ k, 1 ≤ k → k ≤ s.length → maxT s k ≤ maxT t k
  | 0, h0, _ => by omega
  | 1, _, _ => by rw [maxT_one, maxT_one]; exact h.2 0
  | k + 2, _, hk => by
    have ih := maxT_mono h (k + 1) (by omega) (by omega)
    have h1 := h.2 (k + 1)
    have hl := h.1
    rw [maxT_step s (by omega) (by omega), maxT_step t (by omega) (by omega)]
    omega
theorem minT_mono {s t : List Int} (h : LeL s t) : ∀ k, 1 ≤ k → k ≤ s.length → minT s k ≤ minT t k
  | 0, h0, _ => by omega
  | 1, _, _ => by rw [minT_one, minT_one]; exact h.2 0
  | k + 2, _, hk => by
    have ih := minT_mono h (k + 1) (by omega) (by omega)
    have h1 := h.2 (k + 1)
    have hl := h.1
    rw [minT_step s (by omega) (by omega), minT_step t (by omega) (by omega)]
    omega
theorem maxZ_mono {s t : List Int} (h : LeL s t) (hp : 1 ≤ s.length) : maxZ s ≤ maxZ t := by
  unfold maxZ; rw [← h.1]; exact maxT_mono h _ hp (Nat.le_refl _)
theorem minZ_mono {s t : List Int} (h : LeL s t) (hp : 1 ≤ s.length) : minZ s ≤ minZ t := by
  unfold minZ; rw [← h.1]; exact minT_mono h _ hp (Nat.le_refl _)
theorem getD_drop (l : List Int) (k i : Nat) : (l.drop k).getD i 0 = l.getD (k + i) 0 := by simp [List.getD_eq_getElem?_getD]
theorem LeL.lastN {s t : List Int} (h : LeL s t) (n : Nat) : LeL (lastN n s) (lastN n t) := by
  unfold Ytjobicffdcnnlaa.lastN
  refine ⟨by simp [h.1], fun i => ?_⟩
  rw [getD_drop, getD_drop, h.1]
  exact h.2 _
theorem LeL.snoc {s t : List Int} (h : LeL s t) {m n : Int} (hm : m ≤ n) : LeL (s ++ [m]) (t ++ [n]) := by
  refine ⟨by simp [h.1], fun i => ?_⟩
  rw [getD_snoc, getD_snoc, h.1]
  split
  · exact h.2 _
  · split
    · exact hm
    · exact Int.le_refl _
theorem LeL.refl (s : List Int) : LeL s s := ⟨rfl, fun _ => Int.le_refl _⟩
theorem clampM_mono {x y : Int} (h : x ≤ y) : clampM x ≤ clampM y := by unfold clampM; omega
theorem lastN_length (n : Nat) (l : List Int) : (lastN n l).length = min n l.length := by unfold lastN; simp; omega
theorem calL_length (up dn : Int) (l : List Int) (x : Int) : (calL up dn l x).length = min ((max up dn).toNat + 1) (l.length + 1) := by
  unfold calL; rw [lastN_length]; simp
theorem LeL.cal {s t : List Int} (h : LeL s t) (up dn : Int) {x y : Int} (hx : x ≤ y) : LeL (calL up dn s x) (calL up dn t y) := (h.snoc (clampM_mono hx)).lastN _
theorem calV_mono {s t : List Int} (h : LeL s t) (hp : 1 ≤ s.length) (up dn : Int) {m n : Int} (hm : m ≤ n) : calV up dn s m ≤ calV up dn t n := by
  have h1 := maxZ_mono (h.lastN (dn.toNat + 1)) (by rw [lastN_length]; omega)
  have h2 := minZ_mono (h.lastN (up.toNat + 1)) (by rw [lastN_length]; omega)
  have h3 := clampM_mono hm
  unfold calV; omega

/-- All of a list are the same. -/
def AllE (f : Int) (l : List Int) : Prop := ∀ x ∈ l, x = f
theorem AllE.getD {f : Int} {l : List Int} (h : AllE f l) {i : Nat} (hi : i < l.length) : l.getD i 0 = f := by
  rw [List.getD_eq_getElem?_getD, List.getElem?_eq_getElem hi]
  exact h _ (List.getElem_mem hi)
theorem AllE.lastN {f : Int} {l : List Int} (h : AllE f l) (n : Nat) : AllE f (lastN n l) := fun x hx => h x (List.mem_of_mem_drop hx)
theorem AllE.snoc {f : Int} {l : List Int} (h : AllE f l) : AllE f (l ++ [f]) := fun x hx => by
  rcases List.mem_append.1 hx with m | m
  · exact h x m
  · simpa using m
theorem AllE.maxT {f : Int} {l : List Int} (h : AllE f l) : ∀ k, 1 ≤ k → k ≤ l.length → maxT l k = f
  | 0, h0, _ => by omega
  | 1, _, hk => by rw [maxT_one]; exact h.getD (by omega)
  | k + 2, _, hk => by rw [maxT_step l (by omega) (by omega), AllE.maxT h (k + 1) (by omega) (by omega), h.getD (by omega)]; omega
theorem AllE.minT {f : Int} {l : List Int} (h : AllE f l) : ∀ k, 1 ≤ k → k ≤ l.length → minT l k = f
  | 0, h0, _ => by omega
  | 1, _, hk => by rw [minT_one]; exact h.getD (by omega)
  | k + 2, _, hk => by rw [minT_step l (by omega) (by omega), AllE.minT h (k + 1) (by omega) (by omega), h.getD (by omega)]; omega
theorem AllE.cal {f : Int} {l : List Int} (h : AllE f l) (up dn : Int) (f0 : 0 ≤ f) (f1 : f ≤ 1000000) : AllE f (calL up dn l f) := by
  unfold calL
  rw [show clampM f = f by unfold clampM; omega]
  exact h.snoc.lastN _
theorem AllE.calV {f : Int} {l : List Int} (h : AllE f l) (hp : 1 ≤ l.length) (up dn : Int) (f0 : 0 ≤ f) (f1 : f ≤ 1000000) : calV up dn l f = f := by
  unfold Ytjobicffdcnnlaa.calV maxZ minZ
  rw [(h.lastN _).maxT _ (by rw [lastN_length]; omega) (Nat.le_refl _), (h.lastN _).minT _ (by rw [lastN_length]; omega) (Nat.le_refl _)]
  unfold clampM; omega
theorem AllE.put {f : Int} {l : List Int} (h : AllE f l) (c : CF) : AllE f (putP c l f) := fun x hx => h.snoc x (List.mem_of_mem_drop hx)
theorem AllE.head {f : Int} {l : List Int} (h : AllE f l) (hp : 1 ≤ l.length) : headP l = f := by rw [headP_getD]; exact h.getD (by omega)

/-- A law: its count, what was wanted, what was. -/
structure Ls where mk ::
  (n : Int)
  (L P : List Int)
def Ls.to (c : CF) (s : Ls) (M : Int) : Int := limP c (headP s.P) (calV c.cup c.cdn (calL c.cup c.cdn s.L M) s.n)
def Ls.next (c : CF) (s : Ls) (M : Int) : Ls := ⟨s.to c M, calL c.cup c.cdn s.L M, putP c s.P (s.to c M)⟩
def Ls.hold (c : CF) (s : Ls) : Ls := ⟨s.n, s.L, putP c s.P s.n⟩
def Ls.one (f : Int) : Ls := ⟨f, [], [f]⟩
structure Ls.Ok (c : CF) (s : Ls) : Prop where mk ::
  n0 : c.lo ≤ s.n
  n1 : s.n ≤ c.hi
  len : s.L.length ≤ 100
  P : Kept c s.P
theorem Ls.to_in {c : CF} (r : Rts c) (s : Ls) (M : Int) : c.lo ≤ s.to c M ∧ s.to c M ≤ c.hi := limP_in r _ _
theorem Ls.Ok.next {c : CF} (f : Fits c) {s : Ls} (h : s.Ok c) (M : Int) : (s.next c M).Ok c := by
  have h1 := s.to_in f.rts M
  refine ⟨h1.1, h1.2, ?_, h.P.put f.rts h1⟩
  have := f.cup1; have := f.cdn1
  show (calL _ _ _ _).length ≤ 100
  rw [calL_length]; omega
theorem Ls.Ok.hold {c : CF} (f : Fits c) {s : Ls} (h : s.Ok c) : (s.hold c).Ok c := ⟨h.n0, h.n1, h.len, h.P.put f.rts ⟨h.n0, h.n1⟩⟩
theorem Ls.Ok.one {c : CF} (f : Fits c) {n : Int} (h : c.lo ≤ n ∧ n ≤ c.hi) : (Ls.one n).Ok c := ⟨h.1, h.2, by simp [Ls.one], Kept.one f.rts h⟩
/-- One law is no greater than another. -/
structure Ls.Le (s t : Ls) : Prop where mk ::
  n : s.n ≤ t.n
  L : LeL s.L t.L
  P : LeL s.P t.P
theorem Ls.Le.one {x y : Int} (h : x ≤ y) : (Ls.one x).Le (Ls.one y) := ⟨h, LeL.refl _, LeL.one h⟩
theorem Ls.Le.hold {s t : Ls} (h : s.Le t) (c : CF) : (s.hold c).Le (t.hold c) := ⟨h.n, h.L, h.P.put h.n⟩
theorem Ls.Le.next {c : CF} (f : Fits c) {s t : Ls} (h : s.Le t) (hs : s.Ok c) (ht : t.Ok c) {M N : Int} (hM : M ≤ N) : (s.next c M).Le (t.next c N) := by
  have hL := h.L.cal c.cup c.cdn hM
  have hn : s.to c M ≤ t.to c N := by
    have a := hs.P.head; have b := ht.P.head
    have := f.lo0; have := f.hi1
    refine limP_mono f.rates (by omega) h.P.head (by omega) (calV_mono hL ?_ _ _ h.n)
    rw [calL_length]; omega
  exact ⟨hn, hL, h.P.put hn⟩
/-- A law that has not moved. -/
structure Ls.Same (f : Int) (s : Ls) : Prop where mk ::
  n : s.n = f
  L : AllE f s.L
  P : AllE f s.P
theorem Ls.Same.one (f : Int) : Ls.Same f (Ls.one f) := ⟨rfl, (fun x hx => by cases hx), fun x hx => by simpa [Ls.one] using hx⟩
theorem Ls.Same.hold {f : Int} {s : Ls} (h : Ls.Same f s) (c : CF) : Ls.Same f (s.hold c) := ⟨h.n, h.L, by rw [show (s.hold c).P = putP c s.P s.n from rfl, h.n]; exact h.P.put c⟩
theorem Ls.Same.next {c : CF} (F : Fits c) {f : Int} {s : Ls} (h : Ls.Same f s) (hs : s.Ok c) : Ls.Same f (s.next c f) := by
  have h0 := hs.n0; have h1 := hs.n1
  rw [h.n] at h0 h1
  have := F.lo0; have := F.hi1
  have hL := h.L.cal c.cup c.cdn (by omega) (by omega : f ≤ 1000000)
  have hn : s.to c f = f := by
    unfold Ls.to
    rw [h.n, hL.calV (by rw [calL_length]; omega) _ _ (by omega) (by omega), h.P.head hs.P.pos]
    have K := limP_within F.rates (b := f) (w := f) h0 h1
    obtain ⟨_, _, k1, k2⟩ := bounds_mono F.rates (x := f) (y := f) (by omega) (Int.le_refl _) (by omega)
    exact K.2.2 k1 k2 h0 h1
  refine ⟨hn, hL, ?_⟩
  show AllE f (putP c s.P (s.to c f))
  rw [hn]
  exact h.P.put c

/-- What values want of a count. -/
theorem mostL_mono {n m tol : Int} (n0 : 0 ≤ n) (nm : n ≤ m) (m1 : m ≤ 10000) : ∀ (vs ws ts : List Int) (a b : Int), a ≤ b → (∀ p ∈ vs.zip ts, mayB p.1 p.2 tol = true) → (∀ p ∈ ws.zip ts, mayB p.1 p.2 tol = true) → LeL vs ws →
    ∃ M N, mostL n tol (vs.zip ts) a = some M ∧ mostL m tol (ws.zip ts) b = some N ∧ M ≤ N
  | [], [], ts, a, b, h, _, _, _ => ⟨a, b, rfl, rfl, h⟩
  | [], _ :: _, ts, a, b, h, _, _, hl => by have := hl.1; simp at this
  | _ :: _, [], ts, a, b, h, _, _, hl => by have := hl.1; simp at this
  | v :: vs, w :: ws, [], a, b, h, _, _, _ => ⟨a, b, rfl, rfl, h⟩
  | v :: vs, w :: ws, t :: ts, a, b, h, h1, h2, hl => by
    have p1 := h1 (v, t) (by simp)
    have p2 := h2 (w, t) (by simp)
    have q1 := mayB_true p1
    have q2 := mayB_true p2
    have hvw : v ≤ w := by simpa using hl.2 0
    have hw : wantV n v t tol ≤ wantV m w t tol := want_mono n0 nm m1 q1.1 hvw q2.2.1 q1.2.2.1 q1.2.2.2.1 q1.2.2.2.2.1 q1.2.2.2.2.2
    simp only [List.zip_cons_cons]
    unfold mostL
    rw [if_pos p1, if_pos p2]
    exact mostL_mono n0 nm m1 vs ws ts _ _ (by omega) (fun p hp => h1 p (by simp [hp])) (fun p hp => h2 p (by simp [hp])) ⟨by have := hl.1; simpa using this, fun i => by simpa using hl.2 (i + 1)⟩
theorem mostV_mono {n m tol : Int} (n0 : 0 ≤ n) (nm : n ≤ m) (m1 : m ≤ 10000) {vs ws ts : List Int} (e : vs.length = ts.length) (hp : 1 ≤ vs.length) (h1 : ∀ p ∈ vs.zip ts, mayB p.1 p.2 tol = true) (h2 : ∀ p ∈ ws.zip ts, mayB p.1 p.2 tol = true) (hl : LeL vs ws) :
    ∃ M N, mostV n tol vs ts = some M ∧ mostV m tol ws ts = some N ∧ M ≤ N := by
  have := hl.1
  unfold mostV
  rw [if_neg (by omega), if_neg (by omega)]
  exact mostL_mono n0 nm m1 vs ws ts 0 0 (Int.le_refl _) h1 h2 hl
theorem mostL_same {n tol : Int} : ∀ (l : List (Int × Int)) (a : Int), (∀ p ∈ l, mayB p.1 p.2 tol = true ∧ wantV n p.1 p.2 tol = n) → a ≤ n → mostL n tol l a = some (if l = [] then a else n)
  | [], a, _, _ => rfl
  | (v, t) :: r, a, h, ha => by
    obtain ⟨h1, h2⟩ := h (v, t) (by simp)
    unfold mostL
    rw [if_pos h1, mostL_same r _ (fun p hp => h p (by simp [hp])) (by show max a (wantV n v t tol) ≤ n; have : wantV n v t tol = n := h2; omega)]
    have : wantV n v t tol = n := h2
    rw [this]
    by_cases hr : r = []
    · simp [hr]; omega
    · simp [hr]
end Go.Proofs.Ytjobicffdcnnlaa
/- What a law turns; its state; New. -/
namespace Go.Proofs.Ytjobicffdcnnlaa
open Go.RowKit
set_option linter.unusedSimpArgs false
set_option linter.unusedVariables false
set_option maxRecDepth 100000

/-- Of what was there only the blocks of F have turned. -/
structure Tw (F : List Nat) (w w' : World) : Prop where mk ::
  os : w'.os = w.os
  tape : w'.tape = w.tape
  output : w'.output = w.output
  size : w.heap.size ≤ w'.heap.size
  block : ∀ k, k < w.heap.size → k ∉ F → w'.heap[k]? = w.heap[k]?
theorem Tw.refl (F : List Nat) (w : World) : Tw F w w := ⟨rfl, rfl, rfl, Nat.le_refl _, fun _ _ _ => rfl⟩
/-- What a thing has become stands on its own blocks, or on new ones. -/
def Near (F F' : List Nat) (w : World) : Prop := ∀ x ∈ F', x ∈ F ∨ w.heap.size ≤ x
theorem Near.refl (F : List Nat) (w : World) : Near F F w := fun x h => Or.inl h
theorem Near.trans {F F' F'' : List Nat} {w w' : World} (h : Near F F' w) (k : Near F' F'' w') (hs : w.heap.size ≤ w'.heap.size) : Near F F'' w := fun x hx =>
  (k x hx).elim (h x) (fun e => Or.inr (Nat.le_trans hs e))
theorem Tw.trans {F F' : List Nat} {a b c : World} (h : Tw F a b) (k : Tw F' b c) (n : Near F F' a) : Tw F a c :=
  ⟨k.os.trans h.os, k.tape.trans h.tape, k.output.trans h.output, Nat.le_trans h.size k.size, fun i hi h1 => (k.block i (Nat.lt_of_lt_of_le hi h.size) (fun e => (n i e).elim h1 (by omega))).trans (h.block i hi h1)⟩
theorem Tw.of_gr {F : List Nat} {w w' : World} (h : Gr w w') : Tw F w w' := ⟨h.out.os, h.out.tape, h.out.output, h.out.size, fun k hk _ => h.out.block k hk⟩
theorem Tw.of_tc {F : List Nat} {p g : Nat} {w w' : World} (h : Tc p g w w') (hp : p ∈ F) (hg : g ∈ F) : Tw F w w' :=
  ⟨h.os, h.tape, h.output, h.size, fun k hk n => h.block k hk (fun e => n (e ▸ hp)) (fun e => n (e ▸ hg))⟩
theorem Tw.gr {F : List Nat} {W w w' : World} (h : Tw F w w') (G : Gr W w) (hF : ∀ x ∈ F, W.heap.size ≤ x) : Gr W w' :=
  ⟨G.out.trans ⟨h.os, h.tape, h.output, h.size, fun k hk => h.block k (by have := G.size; omega) (fun e => by have := hF k e; omega)⟩⟩
theorem Tw.cell {F : List Nat} {w w' : World} (h : Tw F w w') {p : Addr} (hp : p.block < w.heap.size) (hF : p.block ∉ F) : w'.cell? p = w.cell? p := by
  unfold World.cell?
  rw [h.block p.block hp hF]
theorem Tw.cell_some {F : List Nat} {w w' : World} (h : Tw F w w') {p : Addr} {v : Value} (hp : w.cell? p = some v) (hF : p.block ∉ F) : w'.cell? p = some v := (h.cell (World.block_lt_of_cell? w p hp) hF).trans hp

/-- A law's blocks: its own, calm's, what was wanted, policy's, what was. -/
structure Lx (w : World) (b q gq : Nat) (v : Value) (kq : Int) (p gp cap : Nat) (kp e : Int) (c : CF) (n : Int) (L P : List Int) : Prop where mk ::
  B : Lb w b c n q p e
  Q : Cal w q gq v c.cup c.cdn L kq
  R : Pol w p gp cap c P kp
  bq : b ≠ q
  bgq : b ≠ gq
  bp : b ≠ p
  bgp : b ≠ gp
  qp : q ≠ p
  qgp : q ≠ gp
  gqp : gq ≠ p
  gqgp : gq ≠ gp
theorem Tc.one {w : World} (b off : Nat) (v : Value) : Tc b b w (w.setCell ⟨b, off, none⟩ v) := Tc.cellp b b off w v
section
variable {w w' : World} {b q gq : Nat} {v : Value} {kq : Int} {p gp cap : Nat} {kp e : Int} {c : CF} {n : Int} {L P : List Int}
theorem Lx.on (x : Lx w b q gq v kq p gp cap kp e c n L P) (r : Gr w w') : Lx w' b q gq v kq p gp cap kp e c n L P := ⟨x.B.on r, x.Q.on r, x.R.on r, x.bq, x.bgq, x.bp, x.bgp, x.qp, x.qgp, x.gqp, x.gqgp⟩
theorem Lx.setE (x : Lx w b q gq v kq p gp cap kp e c n L P) (e' : Int) : Lx (w.setCell ⟨b, 29, none⟩ (.int .i64 e')) b q gq v kq p gp cap kp e' c n L P :=
  ⟨x.B.setE e', x.Q.other (Tc.one b 29 _) x.bq.symm x.bq.symm x.bgq.symm x.bgq.symm, x.R.other (Tc.one b 29 _) x.bp.symm x.bp.symm x.bgp.symm x.bgp.symm, x.bq, x.bgq, x.bp, x.bgp, x.qp, x.qgp, x.gqp, x.gqgp⟩
theorem Lx.setN (x : Lx w b q gq v kq p gp cap kp e c n L P) (n' : Int) : Lx (w.setCell ⟨b, 26, none⟩ (.int .i64 n')) b q gq v kq p gp cap kp e c n' L P :=
  ⟨x.B.setN n', x.Q.other (Tc.one b 26 _) x.bq.symm x.bq.symm x.bgq.symm x.bgq.symm, x.R.other (Tc.one b 26 _) x.bp.symm x.bp.symm x.bgp.symm x.bgp.symm, x.bq, x.bgq, x.bp, x.bgp, x.qp, x.qgp, x.gqp, x.gqgp⟩
theorem Lx.cal (x : Lx w b q gq v kq p gp cap kp e c n L P) {gq' : Nat} {v' : Value} {L' : List Int} {kq' : Int} (H : Cal w' q gq' v' c.cup c.cdn L' kq') (T : Tc q gq w w') (hg : w.heap.size ≤ gq') : Lx w' b q gq' v' kq' p gp cap kp e c n L' P := by
  have h1 := x.B.lt
  have h2 := x.R.lt
  have h3 := x.R.glt
  exact ⟨x.B.other T x.bq x.bgq, H, x.R.other T x.qp.symm x.gqp.symm x.qgp.symm x.gqgp.symm, x.bq, by omega, x.bp, x.bgp, x.qp, x.qgp, by omega, by omega⟩
theorem Lx.pol (x : Lx w b q gq v kq p gp cap kp e c n L P) {gp' cap' : Nat} {P' : List Int} {kp' : Int} (H : Pol w' p gp' cap' c P' kp') (T : Tc p gp w w') (hg : gp' = gp ∨ w.heap.size ≤ gp') : Lx w' b q gq v kq p gp' cap' kp' e c n L P' := by
  have h1 := x.B.lt
  have h2 := x.Q.lt
  have h3 := x.Q.glt
  have a1 := x.bgp; have a2 := x.qgp; have a3 := x.gqgp
  exact ⟨x.B.other T x.bp x.bgp, x.Q.other T x.qp x.qgp x.gqp x.gqgp, H, x.bq, x.bgq, x.bp, by omega, x.qp, by omega, x.gqp, by omega⟩
end
def Lw (w : World) (F : List Nat) (b : Nat) (c : CF) (s : Ls) : Prop := ∃ q gq v kq p gp cap kp e, F = [b, q, gq, p, gp] ∧ Lx w b q gq v kq p gp cap kp e c s.n s.L s.P
theorem Lw.on {w w' : World} {F : List Nat} {b : Nat} {c : CF} {s : Ls} (h : Lw w F b c s) (r : Gr w w') : Lw w' F b c s := by
  obtain ⟨q, gq, v, kq, p, gp, cap, kp, e, hF, x⟩ := h
  exact ⟨q, gq, v, kq, p, gp, cap, kp, e, hF, x.on r⟩
theorem Lw.lt {w : World} {F : List Nat} {b : Nat} {c : CF} {s : Ls} (h : Lw w F b c s) : ∀ x ∈ F, x < w.heap.size := by
  obtain ⟨q, gq, v, kq, p, gp, cap, kp, e, rfl, x⟩ := h
  have h1 := x.B.lt; have h2 := x.Q.lt; have h3 := x.Q.glt; have h4 := x.R.lt; have h5 := x.R.glt
  intro y hy
  simp at hy
  omega
/-- Another's turn leaves it. -/
theorem Lw.other {w w' : World} {F F' : List Nat} {b : Nat} {c : CF} {s : Ls} (h : Lw w F b c s) (t : Tw F' w w') (hd : ∀ x ∈ F, x ∉ F') : Lw w' F b c s := by
  obtain ⟨q, gq, v, kq, p, gp, cap, kp, e, rfl, x⟩ := h
  have h1 := hd b (by simp); have h2 := hd q (by simp); have h3 := hd gq (by simp); have h4 := hd p (by simp); have h5 := hd gp (by simp)
  refine ⟨q, gq, v, kq, p, gp, cap, kp, e, rfl, ⟨⟨(t.block b x.B.lt h1).trans x.B.box⟩, ⟨(t.block q x.Q.lt h2).trans x.Q.box, x.Q.row.imp id fun ⟨cap, e, o, n⟩ => ⟨cap, e, own_of_block o (t.block gq (own_lt o) h3), n⟩⟩,
    ⟨(t.block p x.R.lt h4).trans x.R.box, own_of_block x.R.own (t.block gp x.R.glt h5), x.R.ne⟩, x.bq, x.bgq, x.bp, x.bgp, x.qp, x.qgp, x.gqp, x.gqgp⟩⟩

theorem may_true (c : CF) (h : mayC c = true) (w : World) : Calls Try.prog 41 #[.agg #[.int .i64 c.n, .int .i64 c.f, .int .i64 c.m, .int .i64 c.q, .int .i64 c.fresh, .int .i64 c.grace, .int .i64 c.window, .int .i64 c.t0, .int .i64 c.t1, .int .i64 c.t2, .int .i64 c.t3, .int .i64 c.tol, .int .i64 c.lo, .int .i64 c.hi, .int .i64 c.cup, .int .i64 c.cdn, .int .i64 c.pup, .int .i64 c.tup, .int .i64 c.pdn, .int .i64 c.tdn, .int .i64 c.per, .int .i64 c.far, .int .i64 c.str, .int .i64 c.pro, .int .i64 c.sec, .int .u64 c.seed]] w fun e w' => e = .returned (.bool true) ∧ Gr w w' := h ▸ may_any_C c w
end Go.Proofs.Ytjobicffdcnnlaa
/- law.Hold. -/
namespace Go.Proofs.Ytjobicffdcnnlaa
open Go.RowKit
set_option linter.unusedSimpArgs false
set_option linter.unusedVariables false
set_option maxRecDepth 100000

theorem lawHold_none (w : World) : Calls Try.prog 63 #[.pointer none] w fun e w' => e = .returned (.int .i64 0) ∧ w = w' := by
  go_enter Try.func63, Try.ntmps63
  go_wp2
  go_ret
  exact ⟨rfl, rfl⟩
theorem lawCount_none (w : World) : Calls Try.prog 60 #[.pointer none] w fun e w' => e = .returned (.int .i64 0) ∧ w = w' := by
  go_enter Try.func60, Try.ntmps60
  go_wp2
  go_ret
  exact ⟨rfl, rfl⟩

set_option maxHeartbeats 4000000 in
theorem lawHold_x {w : World} {b q gq : Nat} {v : Value} {kq : Int} {p gp cap : Nat} {kp e : Int} {c : CF} {n : Int} {L P : List Int} (x : Lx w b q gq v kq p gp cap kp e c n L P)
    (hc : Fits c) (n0 : c.lo ≤ n) (n1 : n ≤ c.hi) (K : Kept c P) : Calls Try.prog 63 #[.pointer (some ⟨b, 0, none⟩)] w fun r w' =>
      ∃ gp' cap' e', r = .returned (.int .i64 n) ∧ Lx w' b q gq v kq p gp' cap' kp e' c n L (putP c P n) ∧ Tw [b, q, gq, p, gp] w w' ∧ Near [b, q, gq, p, gp] [b, q, gq, p, gp'] w := by
  have hc29 : w.cell? ⟨b, 29, none⟩ = some (.int .i64 e) := x.B.cell 29
  have hz29 := x.B.froz 29
  have X := x.setE (wrap64 (e + 1))
  have T : Tw [b, q, gq, p, gp] w (w.setCell ⟨b, 29, none⟩ (.int .i64 (wrap64 (e + 1)))) := Tw.of_tc (Tc.one b 29 _) (by simp) (by simp)
  have hPl : P.length ≤ 1000 := by have := K.len; have := hc.per1; omega
  have hput : putB c n = true := by unfold putB; simp [n0, n1]
  clear x
  go_enter Try.func63, Try.ntmps63
  go_upto_region 4 with ((go_at_call 89; refine (add_any b 29 e 1 _ hc29 hz29).mono ?_; rintro e w1 ⟨rfl, rfl⟩))
  clear hc29 hz29
  generalize World.setCell _ _ _ = w1 at *
  have hcs : ∀ s : Gw w1, ∀ off, s.val.cell? ⟨b, off, none⟩ = lawAt c n q p (wrap64 (e + 1)) off := fun s => (X.B.on s.gr).cell
  refine wp_region_quiet_tail (C := fun w' => ∃ s : Gw w1, w' = s.val) 8 (by kernel_rfl) (by as_aux_lemma => kernel_rfl) (by decide) (by as_aux_lemma => kernel_rfl) (by as_aux_lemma => kernel_rfl) (by as_aux_lemma => kernel_rfl) (by as_aux_lemma => kernel_rfl) (Gr.fresh w1).in_ ?_
  simp only [List.take_succ_cons, List.take_zero, List.drop_succ_cons, List.drop_zero]
  repeat (go_big_quiet_step (fail))
  refine wpQuiet_nil ?_
  rintro _ ⟨s, rfl⟩
  replace X := X.on s.gr
  replace T := T.trans (Tw.of_gr s.gr) (Near.refl _ _)
  clear hcs
  generalize s.val = w2 at *
  go_wp2_with fail
  refine (put_v X.R K.pos hPl hc.rts n hput _ rfl).mono ?_
  rintro e1 w3 ⟨gp', cap', rfl, H, T3, hg⟩
  have X3 := X.pol H T3 (Or.inr hg)
  have hs2 := T.size
  have T4 := T.trans (Tw.of_tc (F := [b, q, gq, p, gp]) T3 (by simp) (by simp)) (Near.refl _ _)
  have hc3 := X3.B.cell
  clear X H T3 T
  go_wp2
  go_ret
  refine ⟨gp', cap', _, rfl, X3, T4, fun y hy => ?_⟩
  simp at hy ⊢
  omega
end Go.Proofs.Ytjobicffdcnnlaa
/- law.Next. -/
namespace Go.Proofs.Ytjobicffdcnnlaa
open Go.RowKit
set_option linter.unusedSimpArgs false
set_option linter.unusedVariables false
set_option maxRecDepth 100000

/-- The targets that there are. -/
def tgt (c : CF) : List Int := [c.t0, c.t1].take c.m.toNat
theorem tgt_length {c : CF} (f : Fits c) : (tgt c).length = c.m.toNat := by
  have := f.m1
  unfold tgt; simp; omega
@[go_sem] theorem lawAt_7 (c : CF) (n : Int) (q p : Nat) (e : Int) : lawAt c n q p e 7 = some (.int .i64 c.t0) := rfl
@[go_sem] theorem lawAt_8 (c : CF) (n : Int) (q p : Nat) (e : Int) : lawAt c n q p e 8 = some (.int .i64 c.t1) := rfl
/-- A part of an array of four is sliced. -/
theorem slice34 (A : Addr) (k : Nat) (hk : k ≤ 4) (w : World) : (Instr.sliceAt 34 (.pointer (some A)) none (some (.int .i64 (k : Int))) none).run Try.prog w = .ok (.slice (some A) k 4) w := by
  have hu : Try.prog.underlying 34 = some (.array (Try.prog.arrayLen 34) (Try.prog.elem 34)) := by kernel_rfl
  have ha : Try.prog.arrayLen 34 = 4 := by kernel_rfl
  have hs : (sizeOf (Try.prog.elem 34)).run Try.prog w = .ok 1 w := by kernel_rfl
  rw [run_sliceAt_array_h w 34 A hu .i64 (k : Int) (by omega) (by rw [ha]; omega), hs, ha]
  have e : (A.add (0 * 1)) = A := by cases A; simp [Addr.add]
  have e2 : (if 4 = 0 then A else A) = A := by simp
  simp [slicedAt, Result.andThen, e]
theorem Lb.tgt {w : World} {b : Nat} {c : CF} {n : Int} {q p : Nat} {e : Int} (h : Lb w b c n q p e) (f : Fits c) : RI w (some ⟨b, 7, none⟩) c.m.toNat (Ytjobicffdcnnlaa.tgt c) := by
  have := f.m0; have := f.m1
  refine ⟨tgt_length f, by omega, fun _ => ⟨_, rfl, fun j hj => ?_⟩⟩
  rw [Addr.add_lit, h.cell]
  unfold Ytjobicffdcnnlaa.tgt
  rcases (show j = 0 ∨ (j = 1 ∧ c.m.toNat = 2) by omega) with rfl | ⟨rfl, e⟩
  · rw [show [c.t0, c.t1].take c.m.toNat = [c.t0] ++ [c.t1].take (c.m.toNat - 1) by rcases (show c.m.toNat = 1 ∨ c.m.toNat = 2 by omega) with e | e <;> rw [e] <;> rfl]
    rfl
  · rw [e]; rfl

set_option maxHeartbeats 4000000 in
theorem lawNext_no {w : World} {b q gq : Nat} {v : Value} {kq : Int} {p gp cap : Nat} {kp e : Int} {c : CF} {n : Int} {L P : List Int} (x : Lx w b q gq v kq p gp cap kp e c n L P)
    (hc : Fits c) (A : Option Addr) (k cp : Nat) (xs : List Int) (h : RI w A k xs) (hm : mostV n c.tol xs (tgt c) = none) : Calls Try.prog 61 #[.pointer (some ⟨b, 0, none⟩), .slice A k cp] w fun r w' => r = .returned (.tuple #[.int .i64 0, .int .i64 0, .int .i64 1]) ∧ Gr w w' := by
  have m0 := hc.m0
  have m1 := hc.m1
  have hl := h.1
  have hb := h.2.1
  obtain ⟨m, em⟩ : ∃ m : Nat, c.m = (m : Int) := ⟨c.m.toNat, by omega⟩
  have B := x.B
  have hmost := fun (w' : World) (r : Gr w w') => most_any n c.tol A (some ⟨b, 7, none⟩) cp 4 k c.m.toNat xs (tgt c) w' (h.gr r) ((B.on r).tgt hc)
  rw [hm] at hmost
  have HM := Lib.hid hmost
  clear hmost hm x h
  rw [em] at m0 m1 HM
  have em' : (m : Int).toNat = m := by omega
  rw [em'] at HM
  by_cases hk : k = m
  · subst hk
    have hc' := B.cell
    go_enter Try.func61, Try.ntmps61
    go_upto_region 3 with (fail)
    have hcs : ∀ s : Gw w, ∀ off, s.val.cell? ⟨b, off, none⟩ = lawAt c n q p e off := fun s => (B.on s.gr).cell
    clear hc'
    have hsl := slice34 ⟨b, 7, none⟩ k (by omega)
    refine wp_region_quiet_gw (by kernel_rfl) (by kernel_rfl) ?_
    repeat (go_big_quiet_step (first | (go_at_call 30; exact q_gr ((HM.out _ (Gw.gr _)).mono fun _ _ ⟨r1, r2⟩ => ⟨r1, r2 ▸ Gr.refl _⟩))))
    refine wpQuiet_nil fun s => ?_
    have G := s.gr
    clear hcs HM
    go_wp2
    go_ret3
    exact ⟨rfl, G⟩
  · have hc' := B.cell
    clear HM
    have hne : ((k : Int) != (m : Int)) = true := by simp; omega
    go_enter Try.func61, Try.ntmps61
    go_wp2
    go_ret3
    exact ⟨rfl, Gr.refl w⟩
end Go.Proofs.Ytjobicffdcnnlaa
/- law.Next, where its values may be. -/
namespace Go.Proofs.Ytjobicffdcnnlaa
open Go.RowKit
set_option linter.unusedSimpArgs false
set_option linter.unusedVariables false
set_option maxRecDepth 100000

theorem run_store3 {a : Act} {x y : Operand} {o : Oper} {w : World} {p off : Nat} {n : Int} {u : Value} (ho : o.op = .store 3 x y) (hp : a.eval x = .pointer (some ⟨p, off, none⟩)) (hv : a.eval y = .int .i64 n)
    (hc : w.cell? ⟨p, off, none⟩ = some u) (hz : w.frozen? ⟨p, off, none⟩ = false) : (execOp a.eval o).run Try.prog w = .ok .skip (w.setCell ⟨p, off, none⟩ (.int .i64 n)) := by
  unfold execOp
  rw [ho]
  show (do Instr.storeAt 3 (a.eval x) (a.eval y); pure Next.skip : Sem Next).run Try.prog w = _
  rw [hp, hv]
  simp [Instr.storeAt, go_sem, hc, hz]
theorem wpOp_valT {P : Program} {ops : Array Oper} {Q : Exit → Act → World → Prop} {w : World} {i : Nat} {o : Oper} {a : Act} {K : Act → World → Prop} (t : Nat) (v : Value) (w1 : World) (hi : ops[i]? = some o) (hd : o.dst = some t) (hw : Region.wanted o (yielded ops a.tmps) = true)
    (h : (execOp a.eval o).run P w = .ok (.value v) w1) (k : K (a.put (some t) v) w1) : wpOp P ops Q i K a w :=
  wpOp_value v w1 hi hw h (by rw [hd]; exact k)
/-- The worlds in which one block is as it was. -/
structure Gk (w : World) (b : Nat) where mk ::
  val : World
  ok : val.heap[b]? = w.heap[b]?
instance (w : World) (b : Nat) : Nonempty (Gk w b) := ⟨⟨w, rfl⟩⟩
@[go_sem ↓] theorem quiet_gk {P : Program} {o : Oper} {a : Act} {W : World} {b : Nat} {K : Act → Prop} : o.quiet P a (fun w' => ∃ s : Gk W b, w' = s.val) K =
    (∃ v, (∀ s : Gk W b, o.quietAt P a (fun w' => ∃ s : Gk W b, w' = s.val) s.val v) ∧ K (a.put o.dst v)) := by
  unfold Oper.quiet
  apply propext
  constructor
  · rintro ⟨v, h, k⟩
    exact ⟨v, fun s => h _ ⟨s, rfl⟩, k⟩
  · rintro ⟨v, h, k⟩
    refine ⟨v, ?_, k⟩
    rintro _ ⟨s, rfl⟩
    exact h s
theorem Lb.in_ {w w' : World} {b : Nat} {c : CF} {n : Int} {q p : Nat} {e : Int} (h : Lb w b c n q p e) (h' : Lb w' b c n q p e) : ∃ s : Gk w b, w' = s.val := ⟨⟨w', h'.box.trans h.box.symm⟩, rfl⟩
theorem Lb.at_ {w : World} {b : Nat} {c : CF} {n : Int} {q p : Nat} {e : Int} (h : Lb w b c n q p e) (s : Gk w b) : Lb s.val b c n q p e := ⟨s.ok.trans h.box⟩

set_option maxHeartbeats 4000000 in
theorem lawNext_x {w : World} {b q gq : Nat} {v : Value} {kq : Int} {p gp cap : Nat} {kp e : Int} {c : CF} {n : Int} {L P : List Int} (x : Lx w b q gq v kq p gp cap kp e c n L P)
    (hc : Fits c) (hL : L.length ≤ 100) (K : Kept c P) (A : Option Addr) (k cp : Nat) (xs : List Int) (h : RI w A k xs) (M : Int) (hm : mostV n c.tol xs (tgt c) = some M) (N : Int) (hN : (Ls.mk n L P).to c M = N) :
    Calls Try.prog 61 #[.pointer (some ⟨b, 0, none⟩), .slice A k cp] w fun r w' =>
      ∃ gq' v' kq' gp' cap' kp' e', r = .returned (.tuple #[.int .i64 N, .int .i64 M, .int .i64 0]) ∧ Lx w' b q gq' v' kq' p gp' cap' kp' e' c N (calL c.cup c.cdn L M) (putP c P N) ∧ Tw [b, q, gq, p, gp] w w' ∧ Near [b, q, gq, p, gp] [b, q, gq', p, gp'] w := by
  have m0 := hc.m0
  have m1 := hc.m1
  have hl := h.1
  have hb := h.2.1
  obtain ⟨m, em⟩ : ∃ m : Nat, c.m = (m : Int) := ⟨c.m.toNat, by omega⟩
  have em' : (m : Int).toNat = m := by omega
  have hk : k = m := by
    have h0 : ¬ (xs.length ≠ (tgt c).length ∨ xs.length = 0 ∨ n < 0 ∨ 10000 < n) := fun hh => by unfold mostV at hm; rw [if_pos hh] at hm; cases hm
    have := tgt_length hc
    omega
  subst hk
  have B := x.B
  have hmost := fun (w' : World) (r : Gr w w') => most_any n c.tol A (some ⟨b, 7, none⟩) cp 4 k c.m.toNat xs (tgt c) w' (h.gr r) ((B.on r).tgt hc)
  rw [hm] at hmost
  rw [em, em'] at hmost
  have HM := Lib.hid (show ∀ w', Gr w w' → Calls Try.prog 30 #[.int .i64 n, .slice A k cp, .slice (some ⟨b, 7, none⟩) k 4, .int .i64 c.tol] w' fun e w'' => e = .returned (.tuple #[.int .i64 M, .bool true]) ∧ w' = w'' from hmost)
  have hto : limP c (headP P) (calV c.cup c.cdn (calL c.cup c.cdn L M) n) = N := hN
  have hr := limP_in hc.rts (headP P) (calV c.cup c.cdn (calL c.cup c.cdn L M) n)
  rw [hto] at hr
  have hput : putB c N = true := by unfold putB; simp [hr]
  have HT := Lib.hid hto
  have hPl : P.length ≤ 1000 := by have := K.len; have := hc.per1; omega
  have u0 := hc.cup0; have u1 := hc.cup1; have d0 := hc.cdn0; have d1 := hc.cdn1
  clear hmost hm h hto hr hN hl
  have hc' := B.cell
  rw [em] at m0 m1
  go_enter Try.func61, Try.ntmps61
  go_upto_region 3 with (fail)
  have hcs : ∀ s : Gw w, ∀ off, s.val.cell? ⟨b, off, none⟩ = lawAt c n q p e off := fun s => (B.on s.gr).cell
  clear hc'
  have hsl := slice34 ⟨b, 7, none⟩ k (by omega)
  refine wp_region_quiet_gw (by kernel_rfl) (by kernel_rfl) ?_
  repeat (go_big_quiet_step (first | (go_at_call 30; exact q_gr ((HM.out _ (Gw.gr _)).mono fun _ _ ⟨r1, r2⟩ => ⟨r1, r2 ▸ Gr.refl _⟩))))
  refine wpQuiet_nil fun s => ?_
  have X0 := x.on s.gr
  have T0 : Tw [b, q, gq, p, gp] w s.val := Tw.of_gr s.gr
  generalize s.val = w1 at *
  clear hcs hsl HM B x s
  have hc29 : w1.cell? ⟨b, 29, none⟩ = some (.int .i64 e) := X0.B.cell 29
  have hz29 := X0.B.froz 29
  have X := X0.setE (wrap64 (e + 1))
  have T := T0.trans (Tw.of_tc (F := [b, q, gq, p, gp]) (Tc.one (w := w1) b 29 (.int .i64 (wrap64 (e + 1)))) (by simp) (by simp)) (Near.refl _ _)
  clear X0 T0
  as_aux_lemma =>
    go_upto_region 7 with ((go_at_call 89; refine (add_any b 29 e 1 _ hc29 hz29).mono ?_; rintro e w1 ⟨rfl, rfl⟩))
    clear hc29 hz29
    generalize World.setCell _ _ _ = w2 at *
    generalize wrap64 (e + 1) = e2 at *
    replace X := X.on (Gr.fresh w2)
    replace T := T.trans (Tw.of_gr (Gr.fresh w2)) (Near.refl _ _)
    refine wp_region_grpT (fun w' => ∃ s : Gk { w2 with drawn := w2.drawn + 1 } b, w' = s.val) [18] [([0, 1, 2, 3, 4, 5, 6, 7, 8, 9, 10, 11, 12, 13], [14, 15, 16, 17, 18])] (by kernel_rfl) (by as_aux_lemma => kernel_rfl) (by as_aux_lemma => kernel_rfl) (by as_aux_lemma => kernel_rfl) (by kernel_rfl) (fun d v c a w h => by cases d <;> exact h) ?_
    simp only [wpGrpT, wpSeqT, List.filterMap_cons, List.filterMap_nil, List.getElem?_toArray, List.getElem?_cons_succ, List.getElem?_cons_zero]
    refine ⟨Or.inr (X.B.in_ X.B), ?_⟩
    generalize ({ w2 with drawn := w2.drawn + 1 } : World) = w3 at *
    have hB := X.B
    have hcs : ∀ s : Gk w3 b, ∀ off, s.val.cell? ⟨b, off, none⟩ = lawAt c n q p e2 off := fun s => (hB.at_ s).cell
    show wpQuiet _ _ _ _ [_, _, _, _, _, _, _, _, _, _, _, _, _, _] _
    repeat (go_big_quiet_step (fail))
    refine wpQuiet_nil ?_
    clear hcs
    refine wpOp_to (R := fun v' w' => v' = .int .i64 (calV c.cup c.cdn (calL c.cup c.cdn L M) n) ∧ ∃ gq' v'' kq', Lx w' b q gq' v'' kq' p gp cap kp e2 c n (calL c.cup c.cdn L M) P ∧ Tw [b, q, gq, p, gp] w w' ∧ w.heap.size ≤ gq') 65 93 #[.pointer (some ⟨q, 0, none⟩), .int .i64 n, .int .i64 M] rfl rfl rfl (by kernel_rfl) ((c_next_any X.Q u0 (by omega) d0 (by omega) (by omega) n M).mono fun r w' ⟨g', v', k', r1, r2, r3, r4⟩ => ⟨_, r1, rfl, g', v', k', X.cal r2 r3 r4, T.trans (Tw.of_tc (F := [b, q, gq, p, gp]) r3 (by simp) (by simp)) (Near.refl _ _), Nat.le_trans T.size r4⟩) fun v4 w4 hv4 => ?_
    obtain ⟨rfl, gq', v', kq', X4, T4, hq4⟩ := hv4
    refine ⟨fun _ => hB.in_ X4.B, ?_⟩
    clear X T
    simp only [Act.put, List.setIfInBounds_toArray, List.set_cons_succ, List.set_cons_zero]
    refine wpOp_to (R := fun r5 w' => r5 = .int .i64 N ∧ ∃ kp', Lx w' b q gq' v' kq' p gp cap kp' e2 c n (calL c.cup c.cdn L M) P ∧ Tw [b, q, gq, p, gp] w w') 66 49 #[.pointer (some ⟨p, 0, none⟩), .int .i64 (calV c.cup c.cdn (calL c.cup c.cdn L M) n)] rfl rfl rfl (by kernel_rfl) ((limit_v X4.R K.pos _ N HT.out).mono fun r w' ⟨k', r1, r2, r3⟩ => ⟨_, r1, rfl, k', X4.pol r2 r3 (Or.inl rfl), T4.trans (Tw.of_tc (F := [b, q, gq, p, gp]) r3 (by simp) (by simp)) (Near.refl _ _)⟩) fun v5 w5 hv5 => ?_
    obtain ⟨rfl, kp5, X5, T5⟩ := hv5
    refine ⟨fun _ => hB.in_ X5.B, ?_⟩
    clear X4 T4
    simp only [Act.put, List.setIfInBounds_toArray, List.set_cons_succ, List.set_cons_zero]
    refine wpOp_valT 67 (.pointer (some ⟨b, 0, none⟩)) w5 rfl rfl rfl (by kernel_rfl) ⟨fun _ => hB.in_ X5.B, ?_⟩
    simp only [Act.put, List.setIfInBounds_toArray, List.set_cons_succ, List.set_cons_zero]
    refine wpOp_valT 68 (.pointer (some ⟨b, 26, none⟩)) w5 rfl rfl rfl (by kernel_rfl) ⟨fun _ => hB.in_ X5.B, ?_⟩
    simp only [Act.put, List.setIfInBounds_toArray, List.set_cons_succ, List.set_cons_zero]
    refine wpOp_skipT _ rfl rfl rfl (run_store3 rfl rfl rfl ((X5.B.cell 26).trans (lawAt_26 _ _ _ _ _)) (X5.B.froz 26)) ⟨fun h' => absurd h' (by decide), ?_⟩
    have X6 := X5.setN N
    have T6 := T5.trans (Tw.of_tc (F := [b, q, gq, p, gp]) (Tc.one (w := w5) b 26 (.int .i64 N)) (by simp) (by simp)) (Near.refl _ _)
    clear X5 T5 HT
    generalize World.setCell _ _ _ = w6 at *
    as_aux_lemma =>
      go_upto_region 8 with (fail)
      have hcs : ∀ s : Gw w6, ∀ off, s.val.cell? ⟨b, off, none⟩ = lawAt c N q p e2 off := fun s => (X6.B.on s.gr).cell
      refine wp_region_quiet_tail (C := fun w' => ∃ s : Gw w6, w' = s.val) 8 (by kernel_rfl) (by as_aux_lemma => kernel_rfl) (by decide) (by as_aux_lemma => kernel_rfl) (by as_aux_lemma => kernel_rfl) (by as_aux_lemma => kernel_rfl) (by as_aux_lemma => kernel_rfl) (Gr.fresh w6).in_ ?_
      simp only [List.take_succ_cons, List.take_zero, List.drop_succ_cons, List.drop_zero]
      repeat (go_big_quiet_step (fail))
      refine wpQuiet_nil ?_
      rintro _ ⟨s, rfl⟩
      replace X6 := X6.on s.gr
      replace T6 := T6.trans (Tw.of_gr s.gr) (Near.refl _ _)
      clear hcs
      generalize s.val = w7 at *
      go_wp2_with fail
      refine (put_v X6.R K.pos hPl hc.rts N hput _ rfl).mono ?_
      rintro e1 w8 ⟨gp', cap', rfl, H, T3, hg⟩
      have X8 := X6.pol H T3 (Or.inr hg)
      have hs2 := T6.size
      have T8 := T6.trans (Tw.of_tc (F := [b, q, gq, p, gp]) T3 (by simp) (by simp)) (Near.refl _ _)
      have hc8 := X8.B.cell
      clear X6 H T3 T6
      go_wp2
      go_ret3
      refine ⟨_, _, _, gp', cap', _, _, rfl, X8, T8, fun y hy => ?_⟩
      simp at hy ⊢
      omega
end Go.Proofs.Ytjobicffdcnnlaa
/- law.New. -/
namespace Go.Proofs.Ytjobicffdcnnlaa
open Go.RowKit
set_option linter.unusedSimpArgs false
set_option linter.unusedVariables false
set_option maxRecDepth 100000

set_option maxHeartbeats 4000000 in
theorem law_new_ok (c : CF) (hc : Fits c) (n : Int) (n0 : c.lo ≤ n) (n1 : n ≤ c.hi) (w : World) : Calls Try.prog 59 #[.agg #[.int .i64 c.n, .int .i64 c.f, .int .i64 c.m, .int .i64 c.q, .int .i64 c.fresh, .int .i64 c.grace, .int .i64 c.window, .int .i64 c.t0, .int .i64 c.t1, .int .i64 c.t2, .int .i64 c.t3, .int .i64 c.tol, .int .i64 c.lo, .int .i64 c.hi, .int .i64 c.cup, .int .i64 c.cdn, .int .i64 c.pup, .int .i64 c.tup, .int .i64 c.pdn, .int .i64 c.tdn, .int .i64 c.per, .int .i64 c.far, .int .i64 c.str, .int .i64 c.pro, .int .i64 c.sec, .int .u64 c.seed], .int .i64 n] w fun e w' =>
    ∃ b F, e = .returned (.pointer (some ⟨b, 0, none⟩)) ∧ Lw w' F b c (Ls.one n) ∧ (∀ x ∈ F, w.heap.size ≤ x) ∧ Gr w w' := by
  have A0 := start_at (Gr.refl w) c
  have hm := fun w => may_true c hc.may w
  have HM := Lib.hid hm; clear hm
  have hnb : newB c n = true := by unfold newB; simp [hc.rates, n0, n1]
  go_enter Try.func59, Try.ntmps59
  go_upto_region 1 with (fail)
  generalize w.alloc (.cells #[.int .i64 c.n, .int .i64 c.f, .int .i64 c.m, .int .i64 c.q, .int .i64 c.fresh, .int .i64 c.grace, .int .i64 c.window, .int .i64 c.t0, .int .i64 c.t1, .int .i64 c.t2, .int .i64 c.t3, .int .i64 c.tol, .int .i64 c.lo, .int .i64 c.hi, .int .i64 c.cup, .int .i64 c.cdn, .int .i64 c.pup, .int .i64 c.tup, .int .i64 c.pdn, .int .i64 c.tdn, .int .i64 c.per, .int .i64 c.far, .int .i64 c.str, .int .i64 c.pro, .int .i64 c.sec, .int .u64 c.seed] 36) = w1 at *
  generalize w.heap.size = b0 at *
  have hk := A0.conf
  go_upto_region 3 with ((go_at_call 41; refine (HM.out _).mono ?_; rintro e w2 ⟨rfl, hg⟩; replace A0 := A0.on hg; clear hg hk; have hcl := A0.cell))
  rename World => w2
  clear HM
  have hks : ∀ s : Gw w2, conf36? s.val ⟨b0, 0, none⟩ = some #[.int .i64 c.n, .int .i64 c.f, .int .i64 c.m, .int .i64 c.q, .int .i64 c.fresh, .int .i64 c.grace, .int .i64 c.window, .int .i64 c.t0, .int .i64 c.t1, .int .i64 c.t2, .int .i64 c.t3, .int .i64 c.tol, .int .i64 c.lo, .int .i64 c.hi, .int .i64 c.cup, .int .i64 c.cdn, .int .i64 c.pup, .int .i64 c.tup, .int .i64 c.pdn, .int .i64 c.tdn, .int .i64 c.per, .int .i64 c.far, .int .i64 c.str, .int .i64 c.pro, .int .i64 c.sec, .int .u64 c.seed] := fun s => A0.confG s
  have hcs : ∀ s : Gw w2, ∀ off, s.val.cell? ⟨b0, off, none⟩ = cellAt c off := fun s => A0.cellG s
  refine wp_region_grp (fun w' => ∃ s : Gw w2, w' = s.val) [([0, 1, 2, 3, 4, 5, 7, 8], [6, 9, 10, 11]), ([12], [])] (by kernel_rfl) (by as_aux_lemma => kernel_rfl) (by as_aux_lemma => kernel_rfl) (by kernel_rfl) (fun d v c a w h => by cases d <;> exact h) (Gr.fresh w2).in_ ?_
  simp only [wpGrp, wpSeqC, List.filterMap_cons, List.filterMap_nil, List.getElem?_toArray, List.getElem?_cons_succ, List.getElem?_cons_zero]
  show wpQuiet _ _ _ _ [_, _, _, _, _, _, _, _] _
  repeat (go_big_quiet_step (fail))
  refine wpQuiet_nil ?_
  clear hks hcs hcl
  refine wpOp_new (R := fun v w' => ∃ q, v = .pointer (some ⟨q, 0, none⟩) ∧ Cal w' q q (.slice none 0 0) c.cup c.cdn [] 0 ∧ w2.heap.size ≤ q) 26 92 #[.int .i64 c.cup, .int .i64 c.cdn] rfl rfl rfl (by kernel_rfl) (Gr.fresh w2) ((c_new_any c.cup c.cdn hc.cup0 (by have := hc.cup1; omega) hc.cdn0 (by have := hc.cdn1; omega) _).mono fun e w' ⟨q, r1, r2, r3, r4⟩ => ⟨_, r1, ⟨q, rfl, r2, r3⟩, r4⟩) fun v5 w5 hv5 G5 _ => ?_
  obtain ⟨q, rfl, HQ, hq⟩ := hv5
  simp only [Act.put, List.setIfInBounds_toArray, List.set_cons_succ, List.set_cons_zero]
  refine wpOp_new (R := fun v w' => ∃ p g, v = .pointer (some ⟨p, 0, none⟩) ∧ Pol w' p g 1 c [n] 0 ∧ w5.heap.size ≤ p ∧ w5.heap.size ≤ g) 29 45 #[.agg #[.int .i64 c.n, .int .i64 c.f, .int .i64 c.m, .int .i64 c.q, .int .i64 c.fresh, .int .i64 c.grace, .int .i64 c.window, .int .i64 c.t0, .int .i64 c.t1, .int .i64 c.t2, .int .i64 c.t3, .int .i64 c.tol, .int .i64 c.lo, .int .i64 c.hi, .int .i64 c.cup, .int .i64 c.cdn, .int .i64 c.pup, .int .i64 c.tup, .int .i64 c.pdn, .int .i64 c.tdn, .int .i64 c.per, .int .i64 c.far, .int .i64 c.str, .int .i64 c.pro, .int .i64 c.sec, .int .u64 c.seed], .int .i64 n] rfl rfl rfl (by kernel_rfl) G5 ((new_ok c n hnb _).mono fun e w' ⟨p, g, r1, r2, r3, r4, r5⟩ => ⟨_, r1, ⟨p, g, rfl, r2, r3, r4⟩, r5⟩) fun v6 w6 hv6 G6 G56 => ?_
  obtain ⟨p, g, rfl, HP, hp, hg⟩ := hv6
  simp only [Act.put, List.setIfInBounds_toArray, List.set_cons_succ, List.set_cons_zero]
  refine wpOp_made 30 (.agg #[.int .i64 c.n, .int .i64 c.f, .int .i64 c.m, .int .i64 c.q, .int .i64 c.fresh, .int .i64 c.grace, .int .i64 c.window, .int .i64 c.t0, .int .i64 c.t1, .int .i64 c.t2, .int .i64 c.t3, .int .i64 c.tol, .int .i64 c.lo, .int .i64 c.hi, .int .i64 c.cup, .int .i64 c.cdn, .int .i64 c.pup, .int .i64 c.tup, .int .i64 c.pdn, .int .i64 c.tdn, .int .i64 c.per, .int .i64 c.far, .int .i64 c.str, .int .i64 c.pro, .int .i64 c.sec, .int .u64 c.seed, .int .i64 n, .pointer (some ⟨q, 0, none⟩), .pointer (some ⟨p, 0, none⟩), .int .i64 0]) w6 rfl rfl rfl (by kernel_rfl) G6 ?_
  simp only [Act.put, List.setIfInBounds_toArray, List.set_cons_succ, List.set_cons_zero]
  refine wpOp_made 31 (.pointer (some ⟨w6.heap.size, 0, none⟩)) (w6.alloc (.cells #[.int .i64 c.n, .int .i64 c.f, .int .i64 c.m, .int .i64 c.q, .int .i64 c.fresh, .int .i64 c.grace, .int .i64 c.window, .int .i64 c.t0, .int .i64 c.t1, .int .i64 c.t2, .int .i64 c.t3, .int .i64 c.tol, .int .i64 c.lo, .int .i64 c.hi, .int .i64 c.cup, .int .i64 c.cdn, .int .i64 c.pup, .int .i64 c.tup, .int .i64 c.pdn, .int .i64 c.tdn, .int .i64 c.per, .int .i64 c.far, .int .i64 c.str, .int .i64 c.pro, .int .i64 c.sec, .int .u64 c.seed, .int .i64 n, .pointer (some ⟨q, 0, none⟩), .pointer (some ⟨p, 0, none⟩), .int .i64 0] 120)) rfl rfl rfl (by kernel_rfl) (G6.alloc _) ?_
  simp only [Act.put, List.setIfInBounds_toArray, List.set_cons_succ, List.set_cons_zero]
  show wpQuiet _ _ _ _ [_] _
  repeat (go_big_quiet_step (fail))
  refine wpQuiet_nil ?_
  have g0 := A0.gr
  have s0 := g0.size
  have s5 := HQ.lt
  have s6 := HP.lt
  have s7 := HP.glt
  have gq : Gr w5 (w6.alloc (.cells #[.int .i64 c.n, .int .i64 c.f, .int .i64 c.m, .int .i64 c.q, .int .i64 c.fresh, .int .i64 c.grace, .int .i64 c.window, .int .i64 c.t0, .int .i64 c.t1, .int .i64 c.t2, .int .i64 c.t3, .int .i64 c.tol, .int .i64 c.lo, .int .i64 c.hi, .int .i64 c.cup, .int .i64 c.cdn, .int .i64 c.pup, .int .i64 c.tup, .int .i64 c.pdn, .int .i64 c.tdn, .int .i64 c.per, .int .i64 c.far, .int .i64 c.str, .int .i64 c.pro, .int .i64 c.sec, .int .u64 c.seed, .int .i64 n, .pointer (some ⟨q, 0, none⟩), .pointer (some ⟨p, 0, none⟩), .int .i64 0] 120)) := G56.alloc _
  have gp : Gr w6 (w6.alloc (.cells #[.int .i64 c.n, .int .i64 c.f, .int .i64 c.m, .int .i64 c.q, .int .i64 c.fresh, .int .i64 c.grace, .int .i64 c.window, .int .i64 c.t0, .int .i64 c.t1, .int .i64 c.t2, .int .i64 c.t3, .int .i64 c.tol, .int .i64 c.lo, .int .i64 c.hi, .int .i64 c.cup, .int .i64 c.cdn, .int .i64 c.pup, .int .i64 c.tup, .int .i64 c.pdn, .int .i64 c.tdn, .int .i64 c.per, .int .i64 c.far, .int .i64 c.str, .int .i64 c.pro, .int .i64 c.sec, .int .u64 c.seed, .int .i64 n, .pointer (some ⟨q, 0, none⟩), .pointer (some ⟨p, 0, none⟩), .int .i64 0] 120)) := (Gr.refl w6).alloc _
  have s56 := G56.size
  have s26 := G6.size
  have GF := (g0.trans G6).alloc (.cells #[.int .i64 c.n, .int .i64 c.f, .int .i64 c.m, .int .i64 c.q, .int .i64 c.fresh, .int .i64 c.grace, .int .i64 c.window, .int .i64 c.t0, .int .i64 c.t1, .int .i64 c.t2, .int .i64 c.t3, .int .i64 c.tol, .int .i64 c.lo, .int .i64 c.hi, .int .i64 c.cup, .int .i64 c.cdn, .int .i64 c.pup, .int .i64 c.tup, .int .i64 c.pdn, .int .i64 c.tdn, .int .i64 c.per, .int .i64 c.far, .int .i64 c.str, .int .i64 c.pro, .int .i64 c.sec, .int .u64 c.seed, .int .i64 n, .pointer (some ⟨q, 0, none⟩), .pointer (some ⟨p, 0, none⟩), .int .i64 0] 120)
  have hb0 := A0.new
  go_wp2
  go_ret
  refine ⟨_, _, rfl, ⟨q, q, _, 0, p, g, 1, 0, 0, rfl, ⟨⟨heap_new rfl⟩, HQ.on gq, HP.on gp, by omega, by omega, by omega, by omega, by omega, by omega, by omega, by omega⟩⟩, fun y hy => ?_, GF⟩
  simp at hy
  omega
end Go.Proofs.Ytjobicffdcnnlaa
/- A law, and two laws apart, over the world that a statement began with. -/
namespace Go.Proofs.Ytjobicffdcnnlaa
open Go.RowKit
set_option linter.unusedSimpArgs false
set_option linter.unusedVariables false
set_option maxRecDepth 100000

theorem Lw.hold {w : World} {F : List Nat} {b : Nat} {c : CF} {s : Ls} (h : Lw w F b c s) (hc : Fits c) (ok : s.Ok c) : Calls Try.prog 63 #[.pointer (some ⟨b, 0, none⟩)] w fun r w' =>
    ∃ F', r = .returned (.int .i64 s.n) ∧ Lw w' F' b c (s.hold c) ∧ Tw F w w' ∧ Near F F' w := by
  obtain ⟨q, gq, v, kq, p, gp, cap, kp, e, rfl, x⟩ := h
  exact (lawHold_x x hc ok.n0 ok.n1 ok.P).mono fun r w' ⟨gp', cap', e', r1, r2, r3, r4⟩ => ⟨_, r1, ⟨q, gq, v, kq, p, gp', cap', kp, e', rfl, r2⟩, r3, r4⟩
theorem Lw.nextOk {w : World} {F : List Nat} {b : Nat} {c : CF} {s : Ls} (h : Lw w F b c s) (hc : Fits c) (ok : s.Ok c) (A : Option Addr) (k cp : Nat) (xs : List Int) (hr : RI w A k xs) (M : Int) (hm : mostV s.n c.tol xs (tgt c) = some M) :
    Calls Try.prog 61 #[.pointer (some ⟨b, 0, none⟩), .slice A k cp] w fun r w' => ∃ F', r = .returned (.tuple #[.int .i64 (s.to c M), .int .i64 M, .int .i64 0]) ∧ Lw w' F' b c (s.next c M) ∧ Tw F w w' ∧ Near F F' w := by
  obtain ⟨q, gq, v, kq, p, gp, cap, kp, e, rfl, x⟩ := h
  exact (lawNext_x x hc ok.len ok.P A k cp xs hr M hm (s.to c M) rfl).mono fun r w' ⟨gq', v', kq', gp', cap', kp', e', r1, r2, r3, r4⟩ => ⟨_, r1, ⟨q, gq', v', kq', p, gp', cap', kp', e', rfl, r2⟩, r3, r4⟩
theorem Lw.nextNo {w : World} {F : List Nat} {b : Nat} {c : CF} {s : Ls} (h : Lw w F b c s) (hc : Fits c) (A : Option Addr) (k cp : Nat) (xs : List Int) (hr : RI w A k xs) (hm : mostV s.n c.tol xs (tgt c) = none) :
    Calls Try.prog 61 #[.pointer (some ⟨b, 0, none⟩), .slice A k cp] w fun r w' => r = .returned (.tuple #[.int .i64 0, .int .i64 0, .int .i64 1]) ∧ Gr w w' := by
  obtain ⟨q, gq, v, kq, p, gp, cap, kp, e, rfl, x⟩ := h
  exact lawNext_no x hc A k cp xs hr hm
theorem Lw.count {w : World} {F : List Nat} {b : Nat} {c : CF} {s : Ls} (h : Lw w F b c s) : Calls Try.prog 60 #[.pointer (some ⟨b, 0, none⟩)] w fun r w' => r = .returned (.int .i64 s.n) ∧ w = w' := by
  obtain ⟨q, gq, v, kq, p, gp, cap, kp, e, rfl, x⟩ := h
  exact count_any x.B

/-- A law that was made since. -/
structure LG (W w : World) (F : List Nat) (b : Nat) (c : CF) (s : Ls) : Prop where mk ::
  L : Lw w F b c s
  G : Gr W w
  new : ∀ x ∈ F, W.heap.size ≤ x
section
variable {W w w' : World} {F F' : List Nat} {b : Nat} {c : CF} {s s' : Ls}
theorem LG.on (x : LG W w F b c s) (r : Gr w w') : LG W w' F b c s := ⟨x.L.on r, x.G.trans r, x.new⟩
theorem LG.step (x : LG W w F b c s) (L : Lw w' F' b c s') (T : Tw F w w') (N : Near F F' w) : LG W w' F' b c s' :=
  ⟨L, T.gr x.G x.new, fun y hy => (N y hy).elim (x.new y) (fun h => Nat.le_trans x.G.size h)⟩
theorem LG.hold (x : LG W w F b c s) (hc : Fits c) (ok : s.Ok c) (n : Int) (hn : s.n = n) : Calls Try.prog 63 #[.pointer (some ⟨b, 0, none⟩)] w fun r w' => r = .returned (.int .i64 n) ∧ ∃ F', LG W w' F' b c (s.hold c) :=
  hn ▸ (x.L.hold hc ok).mono fun r w' ⟨F', r1, r2, r3, r4⟩ => ⟨r1, F', x.step r2 r3 r4⟩
theorem LG.nextOk (x : LG W w F b c s) (hc : Fits c) (ok : s.Ok c) (A : Option Addr) (k cp : Nat) (xs : List Int) (hr : RI w A k xs) (M : Int) (hm : mostV s.n c.tol xs (tgt c) = some M) (N : Int) (hN : s.to c M = N) :
    Calls Try.prog 61 #[.pointer (some ⟨b, 0, none⟩), .slice A k cp] w fun r w' => r = .returned (.tuple #[.int .i64 N, .int .i64 M, .int .i64 0]) ∧ ∃ F', LG W w' F' b c (s.next c M) :=
  hN ▸ (x.L.nextOk hc ok A k cp xs hr M hm).mono fun r w' ⟨F', r1, r2, r3, r4⟩ => ⟨r1, F', x.step r2 r3 r4⟩
theorem LG.nextNo (x : LG W w F b c s) (hc : Fits c) (A : Option Addr) (k cp : Nat) (xs : List Int) (hr : RI w A k xs) (hm : mostV s.n c.tol xs (tgt c) = none) :
    Calls Try.prog 61 #[.pointer (some ⟨b, 0, none⟩), .slice A k cp] w fun r w' => r = .returned (.tuple #[.int .i64 0, .int .i64 0, .int .i64 1]) ∧ LG W w' F b c s :=
  (x.L.nextNo hc A k cp xs hr hm).mono fun r w' ⟨r1, r2⟩ => ⟨r1, x.on r2⟩
theorem LG.count (x : LG W w F b c s) (n : Int) (hn : s.n = n) : Calls Try.prog 60 #[.pointer (some ⟨b, 0, none⟩)] w fun r w' => r = .returned (.int .i64 n) ∧ w = w' := hn ▸ x.L.count
end

/-- Two laws of one configuration, apart. -/
structure LG2 (W w : World) (c : CF) (F : List Nat) (b : Nat) (s : Ls) (H : List Nat) (d : Nat) (t : Ls) : Prop where mk ::
  L : Lw w F b c s
  M : Lw w H d c t
  G : Gr W w
  newL : ∀ x ∈ F, W.heap.size ≤ x
  newM : ∀ x ∈ H, W.heap.size ≤ x
  df : ∀ x ∈ F, x ∉ H
section
variable {W w w' : World} {c : CF} {F F' H H' : List Nat} {b d : Nat} {s s' t t' : Ls}
theorem LG2.symm (x : LG2 W w c F b s H d t) : LG2 W w c H d t F b s := ⟨x.M, x.L, x.G, x.newM, x.newL, fun y h k => x.df y k h⟩
theorem LG2.on (x : LG2 W w c F b s H d t) (r : Gr w w') : LG2 W w' c F b s H d t := ⟨x.L.on r, x.M.on r, x.G.trans r, x.newL, x.newM, x.df⟩
theorem LG2.left (x : LG2 W w c F b s H d t) (L : Lw w' F' b c s') (T : Tw F w w') (N : Near F F' w) : LG2 W w' c F' b s' H d t :=
  ⟨L, x.M.other T (fun y h k => x.df y k h), T.gr x.G x.newL, fun y hy => (N y hy).elim (x.newL y) (fun h => Nat.le_trans x.G.size h), x.newM,
    fun y hy k => (N y hy).elim (fun h => x.df y h k) (fun h => by have := x.M.lt y k; omega)⟩
theorem LG2.right (x : LG2 W w c F b s H d t) (L : Lw w' H' d c t') (T : Tw H w w') (N : Near H H' w) : LG2 W w' c F b s H' d t' := (x.symm.left L T N).symm
theorem LG2.holdL (x : LG2 W w c F b s H d t) (hc : Fits c) (ok : s.Ok c) (n : Int) (hn : s.n = n) : Calls Try.prog 63 #[.pointer (some ⟨b, 0, none⟩)] w fun r w' => r = .returned (.int .i64 n) ∧ ∃ F', LG2 W w' c F' b (s.hold c) H d t :=
  hn ▸ (x.L.hold hc ok).mono fun r w' ⟨F', r1, r2, r3, r4⟩ => ⟨r1, F', x.left r2 r3 r4⟩
theorem LG2.holdR (x : LG2 W w c F b s H d t) (hc : Fits c) (ok : t.Ok c) (n : Int) (hn : t.n = n) : Calls Try.prog 63 #[.pointer (some ⟨d, 0, none⟩)] w fun r w' => r = .returned (.int .i64 n) ∧ ∃ H', LG2 W w' c F b s H' d (t.hold c) :=
  hn ▸ (x.M.hold hc ok).mono fun r w' ⟨F', r1, r2, r3, r4⟩ => ⟨r1, F', x.right r2 r3 r4⟩
theorem LG2.nextL (x : LG2 W w c F b s H d t) (hc : Fits c) (ok : s.Ok c) (A : Option Addr) (k cp : Nat) (xs : List Int) (hr : RI w A k xs) (M : Int) (hm : mostV s.n c.tol xs (tgt c) = some M) (N : Int) (hN : s.to c M = N) :
    Calls Try.prog 61 #[.pointer (some ⟨b, 0, none⟩), .slice A k cp] w fun r w' => r = .returned (.tuple #[.int .i64 N, .int .i64 M, .int .i64 0]) ∧ Tw F w w' ∧ ∃ F', LG2 W w' c F' b (s.next c M) H d t :=
  hN ▸ (x.L.nextOk hc ok A k cp xs hr M hm).mono fun r w' ⟨F', r1, r2, r3, r4⟩ => ⟨r1, r3, F', x.left r2 r3 r4⟩
theorem LG2.nextR (x : LG2 W w c F b s H d t) (hc : Fits c) (ok : t.Ok c) (A : Option Addr) (k cp : Nat) (xs : List Int) (hr : RI w A k xs) (M : Int) (hm : mostV t.n c.tol xs (tgt c) = some M) (N : Int) (hN : t.to c M = N) :
    Calls Try.prog 61 #[.pointer (some ⟨d, 0, none⟩), .slice A k cp] w fun r w' => r = .returned (.tuple #[.int .i64 N, .int .i64 M, .int .i64 0]) ∧ ∃ H', LG2 W w' c F b s H' d (t.next c M) :=
  hN ▸ (x.M.nextOk hc ok A k cp xs hr M hm).mono fun r w' ⟨F', r1, r2, r3, r4⟩ => ⟨r1, F', x.right r2 r3 r4⟩
theorem add_block (a : Addr) (j : Nat) : (a.add j).block = a.block := by unfold Addr.add; split <;> rfl
/-- The one's values may lie in memory that the other has not touched. -/
theorem RI.tw {A : Option Addr} {k : Nat} {xs : List Int} (h : RI w A k xs) (T : Tw F w w') (hd : ∀ ad, A = some ad → ad.block ∉ F) : RI w' A k xs := by
  refine ⟨h.1, h.2.1, fun hk => ?_⟩
  obtain ⟨ad, e, hc⟩ := h.2.2 hk
  exact ⟨ad, e, fun j hj => T.cell_some (hc j hj) (by rw [add_block]; exact hd ad e)⟩
end

set_option maxHeartbeats 2000000 in
theorem law_new_no (c : CF) (hm : mayC c = true) (n : Int) (n0 : n < c.lo) (w : World) : Calls Try.prog 59 #[.agg #[.int .i64 c.n, .int .i64 c.f, .int .i64 c.m, .int .i64 c.q, .int .i64 c.fresh, .int .i64 c.grace, .int .i64 c.window, .int .i64 c.t0, .int .i64 c.t1, .int .i64 c.t2, .int .i64 c.t3, .int .i64 c.tol, .int .i64 c.lo, .int .i64 c.hi, .int .i64 c.cup, .int .i64 c.cdn, .int .i64 c.pup, .int .i64 c.tup, .int .i64 c.pdn, .int .i64 c.tdn, .int .i64 c.per, .int .i64 c.far, .int .i64 c.str, .int .i64 c.pro, .int .i64 c.sec, .int .u64 c.seed], .int .i64 n] w fun e w' => e = .returned (.pointer none) ∧ Gr w w' := by
  have A0 := start_at (Gr.refl w) c
  have HM := Lib.hid (fun w => may_true c hm w)
  go_enter Try.func59, Try.ntmps59
  go_upto_region 1 with (fail)
  generalize w.alloc (.cells #[.int .i64 c.n, .int .i64 c.f, .int .i64 c.m, .int .i64 c.q, .int .i64 c.fresh, .int .i64 c.grace, .int .i64 c.window, .int .i64 c.t0, .int .i64 c.t1, .int .i64 c.t2, .int .i64 c.t3, .int .i64 c.tol, .int .i64 c.lo, .int .i64 c.hi, .int .i64 c.cup, .int .i64 c.cdn, .int .i64 c.pup, .int .i64 c.tup, .int .i64 c.pdn, .int .i64 c.tdn, .int .i64 c.per, .int .i64 c.far, .int .i64 c.str, .int .i64 c.pro, .int .i64 c.sec, .int .u64 c.seed] 36) = w1 at *
  generalize w.heap.size = b0 at *
  have hk := A0.conf
  go_wp2_with ((go_at_call 41; refine (HM.out _).mono ?_; rintro e w2 ⟨rfl, hg⟩; replace A0 := A0.on hg; clear hg hk; have hc := A0.cell))
  go_ret
  exact ⟨rfl, A0.gr⟩
end Go.Proofs.Ytjobicffdcnnlaa
/- quorumitelaw16's told. -/
namespace Go.Proofs.Ytjobicffdcnnlaa
open Go.RowKit
set_option linter.unusedSimpArgs false
set_option linter.unusedVariables false
set_option maxRecDepth 100000

theorem RI.new1 {w : World} {b : Nat} {t : TypeId} {x : Int} (h : w.heap[b]? = some (.cells #[.int .i64 x] t)) : RI w (some ⟨b, 0, none⟩) 1 [x] :=
  ⟨rfl, by omega, fun _ => ⟨_, rfl, fun j hj => by
    obtain rfl : j = 0 := by omega
    rw [Addr.add_lit]
    exact cell_in h rfl⟩⟩

set_option maxHeartbeats 4000000 in
theorem told16_any (w : World) : Calls Try.prog 62 #[] w fun e w' => e = .returned (.bool true) ∧ Gr w w' := by
  go_enter Try.func62, Try.ntmps62
  go_wp2_with fail
  refine (default_any _).mono ?_
  rintro e w1 ⟨rfl, g1⟩
  go_wp2_with fail
  refine (law_new_ok dflt fits_dflt 4 (by decide) (by decide) _).mono ?_
  rintro e w2 ⟨b, F, rfl, H, hF, g2⟩
  have X : LG w w2 F b dflt (Ls.one 4) := ⟨H, g1.trans g2, fun y hy => Nat.le_trans g1.size (hF y hy)⟩
  clear H hF g1 g2
  go_wp2_with fail
  have R1 : RI (w2.alloc (.cells #[.int .i64 1000] 2)) (some ⟨w2.heap.size, 0, none⟩) 1 [1000] := RI.new1 (heap_new rfl)
  replace X := X.on ((Gr.refl w2).alloc (.cells #[.int .i64 1000] 2))
  refine (X.nextOk fits_dflt (Ls.Ok.one fits_dflt (by decide)) _ 1 1 [1000] R1 4 (by decide) 4 (by decide)).mono ?_
  rintro e w3 ⟨rfl, F3, X3⟩
  have ok3 := (Ls.Ok.one fits_dflt (n := 4) (by decide)).next fits_dflt 4
  clear X R1
  go_wp2_with fail
  have R2 : RI (w3.alloc (.cells #[.int .i64 2000] 2)) (some ⟨w3.heap.size, 0, none⟩) 1 [2000] := RI.new1 (heap_new rfl)
  replace X3 := X3.on ((Gr.refl w3).alloc (.cells #[.int .i64 2000] 2))
  refine (X3.nextOk fits_dflt ok3 _ 1 1 [2000] R2 8 (by decide) 8 (by decide)).mono ?_
  rintro e w4 ⟨rfl, F4, X4⟩
  have ok4 := ok3.next fits_dflt 8
  clear X3 R2
  go_wp2_with fail
  refine (X4.nextNo fits_dflt none 0 0 [] (RI.nil_ _) (by decide)).mono ?_
  rintro e w5 ⟨rfl, X5⟩
  clear X4
  go_wp2_with fail
  refine (X5.hold fits_dflt ok4 8 (by decide)).mono ?_
  rintro e w6 ⟨rfl, F6, X6⟩
  clear X5
  go_wp2_with fail
  refine (X6.count 8 (by decide)).mono ?_
  rintro e w7 ⟨rfl, rfl⟩
  have G := X6.G
  clear X6
  go_wp2_with fail
  refine (default_any _).mono ?_
  rintro e w8 ⟨rfl, g8⟩
  go_wp2_with fail
  refine (law_new_no dflt may_dflt 0 (by decide) _).mono ?_
  rintro e w9 ⟨rfl, g9⟩
  replace G := (G.trans g8).trans g9
  clear g8 g9
  go_wp2_with fail
  refine (lawCount_none _).mono ?_
  rintro e w10 ⟨rfl, rfl⟩
  go_wp2_with fail
  refine (lawHold_none _).mono ?_
  rintro e w11 ⟨rfl, rfl⟩
  go_wp2
  go_ret
  exact ⟨rfl, G⟩
end Go.Proofs.Ytjobicffdcnnlaa
/- What values want, one behind the other. -/
namespace Go.Proofs.Ytjobicffdcnnlaa
open Go Go.RowKit
set_option linter.unusedSimpArgs false
set_option linter.unusedVariables false

/-- The greatest of the first k. -/
def wlS (n tol : Int) (xs ts : List Int) : Nat → Int
  | 0 => 0
  | k + 1 => max (wlS n tol xs ts k) (wantV n (xs.getD k 0) (ts.getD k 0) tol)
theorem tgt_in {c : CF} (f : Fits c) : ∀ t ∈ tgt c, 1 ≤ t ∧ t ≤ 2000 := by
  intro t ht
  have h0 := f.t00; have h1 := f.t01; have hm := f.m1
  unfold tgt at ht
  rcases f.t1m with ⟨e, _⟩ | ⟨e, a, b⟩
  · rw [e] at ht
    simp at ht; omega
  · rw [e] at ht
    simp at ht; omega
theorem may_zip {c : CF} (f : Fits c) {xs : List Int} (hx : ∀ x ∈ xs, 0 ≤ x ∧ x ≤ 1099511627776) : ∀ p ∈ xs.zip (tgt c), mayB p.1 p.2 c.tol = true := by
  rintro ⟨a, b⟩ hp
  have h1 := hx a (List.of_mem_zip hp).1
  have h2 := tgt_in f b (List.of_mem_zip hp).2
  have := f.tol0; have := f.tol1
  exact mayB_of (by simp only; omega)
theorem mostL_wl {n tol : Int} {xs ts : List Int} (hl : xs.length = ts.length) (h : ∀ p ∈ xs.zip ts, mayB p.1 p.2 tol = true) :
    ∀ (j k : Nat), k + j = xs.length → mostL n tol ((xs.zip ts).drop k) (wlS n tol xs ts k) = some (wlS n tol xs ts xs.length)
  | 0, k, e => by
    rw [List.drop_of_length_le (by simp; omega)]
    have : k = xs.length := by omega
    rw [this]
    rfl
  | j + 1, k, e => by
    have hlt : k < (xs.zip ts).length := by simp; omega
    rw [List.drop_eq_getElem_cons hlt]
    have hm := h _ (List.getElem_mem hlt)
    have e1 : (xs.zip ts)[k] = (xs.getD k 0, ts.getD k 0) := by
      rw [List.getElem_zip, List.getD_eq_getElem?_getD, List.getD_eq_getElem?_getD, List.getElem?_eq_getElem (by omega), List.getElem?_eq_getElem (by omega)]
      rfl
    rw [e1] at hm ⊢
    have hm' : mayB (xs.getD k 0) (ts.getD k 0) tol = true := hm
    unfold mostL
    rw [if_pos hm']
    exact mostL_wl hl h j (k + 1) (by omega)
theorem most_wl {c : CF} (f : Fits c) {n : Int} (n0 : 0 ≤ n) (n1 : n ≤ 10000) {xs : List Int} (hl : xs.length = c.m.toNat) (hx : ∀ x ∈ xs, 0 ≤ x ∧ x ≤ 1099511627776) :
    mostV n c.tol xs (tgt c) = some (wlS n c.tol xs (tgt c) c.m.toNat) := by
  have h1 := tgt_length f
  have h0 := f.m0
  unfold mostV
  rw [if_neg (by omega)]
  have := mostL_wl (n := n) (tol := c.tol) (xs := xs) (ts := tgt c) (by omega) (may_zip f hx) xs.length 0 (by omega)
  rw [hl] at this
  exact this
theorem cellAt_tgt {c : CF} (f : Fits c) {k : Nat} (hk : k < c.m.toNat) : cellAt c (7 + k) = some (.int .i64 ((tgt c).getD k 0)) := by
  have := f.m1
  unfold tgt
  rcases (show (k = 0 ∧ c.m.toNat = 1) ∨ (k = 0 ∧ c.m.toNat = 2) ∨ (k = 1 ∧ c.m.toNat = 2) by omega) with ⟨rfl, e⟩ | ⟨rfl, e⟩ | ⟨rfl, e⟩ <;> rw [e] <;> rfl
end Go.Proofs.Ytjobicffdcnnlaa
