/- math/bits.Mul64 by a small number, Add64 by the model's own entry. -/
import Derived.Test.YtjiapggmiddpdaaOctW
import Derived.Laws.Externs
set_option linter.unusedVariables false
set_option linter.unusedSimpArgs false
namespace Go.Proofs.Ytjiapggmiddpdaa
open Go.RowKit Go.Proofs.YtjiapggmiddpdaaW.PrintWords Go.Proofs.YtjiapggmiddpdaaW.PrintLast
theorem and32 {x : Int} (hx : U64 x) : bits .and .u64 x 4294967295 = x % 4294967296 := by
  rw [and_u64 hx (⟨by omega, by omega⟩ : U64 4294967295)]
  rw [show (4294967295 : Int).toNat = 2 ^ 32 - 1 from rfl, Nat.and_two_pow_sub_one_eq_mod]
  have := hx.1
  omega
set_option maxRecDepth 100000 in
set_option maxHeartbeats 8000000 in
theorem mul64_any (x y : Int) (w : World) (hx : U64 x) (hy0 : 0 ≤ y) (hy1 : y < 4294967296) :
    Calls Try.prog 49 #[.int .u64 x, .int .u64 y] w fun e w' => e = .returned (.tuple #[.int .u64 (x * y / 18446744073709551616), .int .u64 (x * y % 18446744073709551616)]) ∧ w' = w := by
  have hx0 := hx.1
  have hx1 := hx.2
  have e1 := and32 hx
  have e2 : bits .and .u64 y 4294967295 = y := by rw [and32 ⟨hy0, by omega⟩]; omega
  have e3 : y / 4294967296 = 0 := by omega
  have d1 : 0 ≤ x / 4294967296 ∧ x / 4294967296 < 4294967296 := by omega
  have d2 : 0 ≤ x % 4294967296 ∧ x % 4294967296 < 4294967296 := by omega
  have m1 : 0 ≤ x / 4294967296 * y ∧ x / 4294967296 * y ≤ 4294967295 * 4294967295 := ⟨Int.mul_nonneg d1.1 hy0, Int.mul_le_mul (by omega) (by omega) hy0 (by omega)⟩
  have m2 : 0 ≤ x % 4294967296 * y ∧ x % 4294967296 * y ≤ 4294967295 * 4294967295 := ⟨Int.mul_nonneg d2.1 hy0, Int.mul_le_mul (by omega) (by omega) hy0 (by omega)⟩
  have hxy : x * y = 4294967296 * (x / 4294967296 * y) + x % 4294967296 * y := by
    rw [← Int.mul_assoc, ← Int.add_mul]
    congr 1
    omega
  generalize ha : x / 4294967296 * y = a at *
  generalize hb : x % 4294967296 * y = b at *
  have e4 : bits .and .u64 (a + b / 4294967296) 4294967295 = (a + b / 4294967296) % 4294967296 := and32 ⟨by omega, by omega⟩
  have h1 : (a + b / 4294967296) / 4294967296 + (a + b / 4294967296) % 4294967296 / 4294967296 = x * y / 18446744073709551616 := by
    rw [hxy]
    omega
  have h2 : IntKind.u64.wrap (4294967296 * a + b) = x * y % 18446744073709551616 := by
    rw [hxy, IntKind.wrap_u64]
  rw [← h1, ← h2]
  clear h1 h2
  go_enter Try.func49, Try.ntmps49
  go_wp2
  go_ret2
  refine ⟨?_, rfl⟩
  rfl
theorem add64_run (x y : Int) (w : World) (hx : 0 ≤ x) (hy : 0 ≤ y) :
    (callFunc 50 #[.int .u64 x, .int .u64 y, .int .u64 0]).run Try.prog w = .ok (.value (.tuple #[.int .u64 ((x + y + 0) % 18446744073709551616), .int .u64 ((x + y + 0) / 18446744073709551616)])) w := by
  rw [run_callFunc_extern Try.func50 (by kernel_rfl) (by kernel_rfl) (by kernel_rfl) (e := add64Entry) (by kernel_rfl), run_add64 x y 0 hx hy (by omega) (by omega)]
  rfl
end Go.Proofs.Ytjiapggmiddpdaa
