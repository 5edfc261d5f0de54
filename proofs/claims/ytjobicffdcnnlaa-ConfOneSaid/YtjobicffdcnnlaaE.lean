import Derived.Test.YtjobicffdcnnlaaC11
import Derived.BigRegion
namespace Go.Proofs.Ytjobicffdcnnlaa
open Go.RowKit
set_option linter.unusedSimpArgs false
set_option linter.unusedVariables false
set_option maxRecDepth 100000
def c0 : CF := { dflt with f := 0, n := 4, q := 1, hi := 10000 }
theorem wrongV_any (c : CF) {r : ByteArray} (h : wrongV c = r) (w : World) : Calls Try.prog 40 #[.agg #[.int .i64 c.n, .int .i64 c.f, .int .i64 c.m, .int .i64 c.q, .int .i64 c.fresh, .int .i64 c.grace, .int .i64 c.window, .int .i64 c.t0, .int .i64 c.t1, .int .i64 c.t2, .int .i64 c.t3, .int .i64 c.tol, .int .i64 c.lo, .int .i64 c.hi, .int .i64 c.cup, .int .i64 c.cdn, .int .i64 c.pup, .int .i64 c.tup, .int .i64 c.pdn, .int .i64 c.tdn, .int .i64 c.per, .int .i64 c.far, .int .i64 c.str, .int .i64 c.pro, .int .i64 c.sec, .int .u64 c.seed]] w fun e w' => e = .returned (.string r) ∧ Gr w w' := h ▸ wrong_any c w
def namesA : Array Value := #[.string ⟨#[110]⟩, .string ⟨#[102]⟩, .string ⟨#[109]⟩, .string ⟨#[113, 117, 111, 114, 117, 109]⟩, .string ⟨#[102, 114, 101, 115, 104]⟩, .string ⟨#[103, 114, 97, 99, 101]⟩, .string ⟨#[119, 105, 110, 100, 111, 119]⟩, .string ⟨#[116, 97, 114, 103, 101, 116]⟩, .string ⟨#[116, 111, 108]⟩, .string ⟨#[109, 105, 110]⟩, .string ⟨#[109, 97, 120]⟩, .string ⟨#[99, 97, 108, 109, 117, 112]⟩, .string ⟨#[99, 97, 108, 109, 100, 111, 119, 110]⟩, .string ⟨#[112, 111, 100, 115, 117, 112]⟩, .string ⟨#[112, 99, 116, 117, 112]⟩, .string ⟨#[112, 111, 100, 115, 100, 111, 119, 110]⟩, .string ⟨#[112, 99, 116, 100, 111, 119, 110]⟩, .string ⟨#[112, 101, 114, 105, 111, 100]⟩, .string ⟨#[102, 97, 114]⟩, .string ⟨#[115, 116, 114, 105, 107, 101, 115]⟩, .string ⟨#[112, 114, 111, 98, 101]⟩, .string ⟨#[115, 101, 99, 116, 111, 114, 115]⟩]
def leastA : Array Value := #[.int .i64 1, .int .i64 0, .int .i64 1, .int .i64 1, .int .i64 1, .int .i64 1, .int .i64 1, .int .i64 1, .int .i64 0, .int .i64 1, .int .i64 1, .int .i64 0, .int .i64 0, .int .i64 1, .int .i64 1, .int .i64 1, .int .i64 1, .int .i64 1, .int .i64 0, .int .i64 1, .int .i64 1, .int .i64 64]
def mostA : Array Value := #[.int .i64 16, .int .i64 1, .int .i64 1, .int .i64 4, .int .i64 8, .int .i64 100, .int .i64 64, .int .i64 1099511627776, .int .i64 1000, .int .i64 10000, .int .i64 10000, .int .i64 60, .int .i64 60, .int .i64 1000, .int .i64 1000, .int .i64 1000, .int .i64 100, .int .i64 60, .int .i64 1099511627776, .int .i64 100, .int .i64 100, .int .i64 4096]
end Go.Proofs.Ytjobicffdcnnlaa
