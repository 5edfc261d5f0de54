import Derived.Test.YtjobicffdcnnlaaProg
import Derived.WalkKit
import Derived.WalkLawsBesides
import Derived.KernelRfl
import Derived.BigQuiet
/- Where the fields of a configuration lie: closed facts that the walk takes first. -/
namespace Go.Proofs.Ytjobicffdcnnlaa
open Go
section
variable (a : Addr) (w : World)
@[go_sem ↓] theorem fa36_0 : (Instr.fieldAt 36 (.pointer (some a)) 0).run Try.prog w = .ok (.pointer (some (a.add 0))) w := by kernel_rfl
@[go_sem ↓] theorem fa36_1 : (Instr.fieldAt 36 (.pointer (some a)) 1).run Try.prog w = .ok (.pointer (some (a.add 1))) w := by kernel_rfl
@[go_sem ↓] theorem fa36_2 : (Instr.fieldAt 36 (.pointer (some a)) 2).run Try.prog w = .ok (.pointer (some (a.add 2))) w := by kernel_rfl
@[go_sem ↓] theorem fa36_3 : (Instr.fieldAt 36 (.pointer (some a)) 3).run Try.prog w = .ok (.pointer (some (a.add 3))) w := by kernel_rfl
@[go_sem ↓] theorem fa36_4 : (Instr.fieldAt 36 (.pointer (some a)) 4).run Try.prog w = .ok (.pointer (some (a.add 4))) w := by kernel_rfl
@[go_sem ↓] theorem fa36_5 : (Instr.fieldAt 36 (.pointer (some a)) 5).run Try.prog w = .ok (.pointer (some (a.add 5))) w := by kernel_rfl
@[go_sem ↓] theorem fa36_6 : (Instr.fieldAt 36 (.pointer (some a)) 6).run Try.prog w = .ok (.pointer (some (a.add 6))) w := by kernel_rfl
@[go_sem ↓] theorem fa36_7 : (Instr.fieldAt 36 (.pointer (some a)) 7).run Try.prog w = .ok (.pointer (some (a.add 7))) w := by kernel_rfl
@[go_sem ↓] theorem fa36_8 : (Instr.fieldAt 36 (.pointer (some a)) 8).run Try.prog w = .ok (.pointer (some (a.add 11))) w := by kernel_rfl
@[go_sem ↓] theorem fa36_9 : (Instr.fieldAt 36 (.pointer (some a)) 9).run Try.prog w = .ok (.pointer (some (a.add 12))) w := by kernel_rfl
@[go_sem ↓] theorem fa36_10 : (Instr.fieldAt 36 (.pointer (some a)) 10).run Try.prog w = .ok (.pointer (some (a.add 13))) w := by kernel_rfl
@[go_sem ↓] theorem fa36_11 : (Instr.fieldAt 36 (.pointer (some a)) 11).run Try.prog w = .ok (.pointer (some (a.add 14))) w := by kernel_rfl
@[go_sem ↓] theorem fa36_12 : (Instr.fieldAt 36 (.pointer (some a)) 12).run Try.prog w = .ok (.pointer (some (a.add 15))) w := by kernel_rfl
@[go_sem ↓] theorem fa36_13 : (Instr.fieldAt 36 (.pointer (some a)) 13).run Try.prog w = .ok (.pointer (some (a.add 16))) w := by kernel_rfl
@[go_sem ↓] theorem fa36_14 : (Instr.fieldAt 36 (.pointer (some a)) 14).run Try.prog w = .ok (.pointer (some (a.add 17))) w := by kernel_rfl
@[go_sem ↓] theorem fa36_15 : (Instr.fieldAt 36 (.pointer (some a)) 15).run Try.prog w = .ok (.pointer (some (a.add 18))) w := by kernel_rfl
@[go_sem ↓] theorem fa36_16 : (Instr.fieldAt 36 (.pointer (some a)) 16).run Try.prog w = .ok (.pointer (some (a.add 19))) w := by kernel_rfl
@[go_sem ↓] theorem fa36_17 : (Instr.fieldAt 36 (.pointer (some a)) 17).run Try.prog w = .ok (.pointer (some (a.add 20))) w := by kernel_rfl
@[go_sem ↓] theorem fa36_18 : (Instr.fieldAt 36 (.pointer (some a)) 18).run Try.prog w = .ok (.pointer (some (a.add 21))) w := by kernel_rfl
@[go_sem ↓] theorem fa36_19 : (Instr.fieldAt 36 (.pointer (some a)) 19).run Try.prog w = .ok (.pointer (some (a.add 22))) w := by kernel_rfl
@[go_sem ↓] theorem fa36_20 : (Instr.fieldAt 36 (.pointer (some a)) 20).run Try.prog w = .ok (.pointer (some (a.add 23))) w := by kernel_rfl
@[go_sem ↓] theorem fa36_21 : (Instr.fieldAt 36 (.pointer (some a)) 21).run Try.prog w = .ok (.pointer (some (a.add 24))) w := by kernel_rfl
@[go_sem ↓] theorem fa36_22 : (Instr.fieldAt 36 (.pointer (some a)) 22).run Try.prog w = .ok (.pointer (some (a.add 25))) w := by kernel_rfl
@[go_sem ↓] theorem fa104_0 : (Instr.fieldAt 104 (.pointer (some a)) 0).run Try.prog w = .ok (.pointer (some (a.add 0))) w := by kernel_rfl
@[go_sem ↓] theorem fa104_1 : (Instr.fieldAt 104 (.pointer (some a)) 1).run Try.prog w = .ok (.pointer (some (a.add 1))) w := by kernel_rfl
@[go_sem ↓] theorem fa104_2 : (Instr.fieldAt 104 (.pointer (some a)) 2).run Try.prog w = .ok (.pointer (some (a.add 2))) w := by kernel_rfl
@[go_sem ↓] theorem fa104_3 : (Instr.fieldAt 104 (.pointer (some a)) 3).run Try.prog w = .ok (.pointer (some (a.add 3))) w := by kernel_rfl
end
/-- A call through a slot that holds function 98. -/
@[go_sem ↓] theorem execOp_call_98 (A : Act) (t : Tmp) (dst : Option Tmp) (xs : Array Operand) (ats : Array TypeId) (ty : TypeId) (pos : String) (after : Array Edge) (guard : Option (Nat × Bool)) (h : A.eval (.tmp t) = .func (Fn.func 98) #[] #[]) :
    execOp A.eval { dst, op := .call { callee := .value (.tmp t), args := xs, argTypes := ats }, type := ty, pos, after, guard } = callFunc 98 (xs.map A.eval) := by
  show (do let d ← resolve A.eval { callee := .value (.tmp t), args := xs, argTypes := ats } ty; invoke d.target d.args) = _
  unfold resolve
  simp only [h]
  simp [invoke, Deferred.ofValue]
@[go_sem high] theorem build104 (w : World) (s : ByteArray) (x y z : Int) : (Instr.build 104 #[(0, .string s), (1, .int .i64 x), (2, .int .i64 y), (3, .int .i64 z)]).run Try.prog w = .ok (.agg #[.string s, .int .i64 x, .int .i64 y, .int .i64 z]) w := by kernel_rfl
end Go.Proofs.Ytjobicffdcnnlaa
