import Derived.Test.YtjobicffdcnnlaaT7
import Derived.Test.YtjobicffdcnnlaaQ7
/- PolicyPlays: both policies' Put and Set, whatever they answer. -/
namespace Go.Proofs.Ytjobicffdcnnlaa
open Go.RowKit
set_option linter.unusedSimpArgs false
set_option linter.unusedVariables false
set_option maxRecDepth 100000

def codeB (b : Bool) : Int := if b = true then 0 else 1
def putU (c : CF) (l : List Int) (n : Int) : List Int := if putB c n = true then putP c l n else l
def setU (c : CF) (l zs : List Int) : List Int := if setB c zs = true then zs else l
theorem Kept.putU {c : CF} (r : Rts c) {l : List Int} (k : Kept c l) (n : Int) : Kept c (putU c l n) := by
  unfold Ytjobicffdcnnlaa.putU
  cases h : putB c n with
  | true => rw [if_pos rfl]; exact k.put r (by unfold putB at h; simpa using h)
  | false => rw [if_neg (by simp)]; exact k
theorem Kept.setU {c : CF} {l : List Int} (k : Kept c l) (zs : List Int) : Kept c (setU c l zs) := by
  unfold Ytjobicffdcnnlaa.setU
  cases h : Ytjobicffdcnnlaa.setB c zs with
  | true => rw [if_pos rfl]; exact Kept.of_set h
  | false => rw [if_neg (by simp)]; exact k
section
variable {W w : World} {c : CF} {p g cp : Nat} {l : List Int} {k : Int} {q h o cq : Nat} {m : List Int}
theorem PX.putL (x : PX W w c p g cp l k q h o cq m) (r : Rts c) (K : Kept c l) (n : Int) :
    Calls Try.prog 46 #[.pointer (some ⟨p, 0, none⟩), .int .i64 n] w fun e w' => ∃ g' cp' k', e = .returned (.int .i64 (codeB (putB c n))) ∧ PX W w' c p g' cp' (putU c l n) k' q h o cq m := by
  have hl : l.length ≤ 1000 := by have := K.len; have := r.per1; omega
  unfold putU codeB
  cases hb : putB c n with
  | true => exact (put_ok x.P K.pos hl r n hb).mono fun e w' ⟨g', cp', r1, r2, r3, r4⟩ => ⟨g', cp', k, r1, x.left r2 r3 (Or.inr r4)⟩
  | false => exact (put_no x.P n hb).mono fun e w' ⟨r1, r2⟩ => ⟨g, cp, k, r1, r2 ▸ x⟩
theorem PX.putR (x : PX W w c p g cp l k q h o cq m) (r : Rts c) (K : Kept c m) (n : Int) :
    Calls Try.prog 57 #[.pointer (some ⟨q, 0, none⟩), .int .i64 n] w fun e w' => ∃ h' o' cq', e = .returned (.int .i64 (codeB (putB c n))) ∧ PX W w' c p g cp l k q h' o' cq' (putU c m n) := by
  have hl : m.length ≤ 1000 := by have := K.len; have := r.per1; omega
  unfold putU codeB
  cases hb : putB c n with
  | true => exact (x_put_ok x.X K.pos hl r n hb).mono fun e w' ⟨h', o', cq', r1, r2, r3, r4⟩ => ⟨h', o', cq', r1, x.right r2 r3 r4⟩
  | false => exact (x_put_no x.X n hb).mono fun e w' ⟨r1, r2⟩ => ⟨h, o, cq, r1, r2 ▸ x⟩
theorem PX.setL (x : PX W w c p g cp l k q h o cq m) (r : Rts c) (A : Option Addr) (n cap : Nat) (zs : List Int) (hr : RI w A n zs) :
    Calls Try.prog 47 #[.pointer (some ⟨p, 0, none⟩), .slice A n cap] w fun e w' => ∃ g' cp' k', e = .returned (.int .i64 (codeB (setB c zs))) ∧ PX W w' c p g' cp' (setU c l zs) k' q h o cq m := by
  unfold setU codeB
  cases hb : setB c zs with
  | true => exact (set_ok x.P r A n cap zs hr hb).mono fun e w' ⟨g', cp', r1, r2, r3, r4⟩ => ⟨g', cp', k, r1, x.left r2 r3 (Or.inr r4)⟩
  | false => exact (set_no x.P r A n cap zs hr hb).mono fun e w' ⟨r1, r2⟩ => ⟨g, cp, k, r1, x.on r2⟩
theorem PX.setR (x : PX W w c p g cp l k q h o cq m) (r : Rts c) (A : Option Addr) (n cap : Nat) (zs : List Int) (hr : RI w A n zs) :
    Calls Try.prog 55 #[.pointer (some ⟨q, 0, none⟩), .slice A n cap] w fun e w' => ∃ h' o' cq', e = .returned (.int .i64 (codeB (setB c zs))) ∧ PX W w' c p g cp l k q h' o' cq' (setU c m zs) := by
  unfold setU codeB
  cases hb : setB c zs with
  | true => exact (x_set_ok x.X r A n cap zs hr hb).mono fun e w' ⟨h', cq', r1, r2, r3, r4⟩ => ⟨h', 0, cq', r1, x.right r2 r3 r4⟩
  | false => exact (x_set_no x.X r A n cap zs hr hb).mono fun e w' ⟨r1, r2⟩ => ⟨h, o, cq, r1, x.on r2⟩
theorem PX.limL (x : PX W w c p g cp l k q h o cq m) (K : Kept c l) (y v : Int) (e : limP c (headP l) y = v) :
    Calls Try.prog 49 #[.pointer (some ⟨p, 0, none⟩), .int .i64 y] w fun e w' => ∃ k', e = .returned (.int .i64 v) ∧ PX W w' c p g cp l k' q h o cq m :=
  (limit_v x.P K.pos y v e).mono fun e w' ⟨k', r1, r2, r3⟩ => ⟨k', r1, x.left r2 r3 (Or.inl rfl)⟩
end
end Go.Proofs.Ytjobicffdcnnlaa
