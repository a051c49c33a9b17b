/- Codec: the walks of the number writers and of what they call. -/
import Derived.Test.YtfmkfpgplpfkhaaCodA
set_option linter.unusedVariables false
set_option linter.unusedSimpArgs false
namespace Go.SL
open Go Go.Proofs
theorem u64_small {x : Nat} (h : x < 18446744073709551616) : IntKind.u64.wrap (x : Int) = (x : Int) := IntWalk.u64_in _ (by omega)
theorem rem128 (y : Nat) : ((y : Int).tmod 128) = ((y % 128 : Nat) : Int) := by
  rw [Int.tmod_eq_emod_of_nonneg (by omega)]; omega
theorem quo128 {y : Nat} (h : y < 18446744073709551616) : IntKind.u64.wrap ((y : Int).tdiv 128) = ((y / 128 : Nat) : Int) := by
  rw [Int.tdiv_eq_ediv_of_nonneg (by omega), show (y : Int) / 128 = ((y / 128 : Nat) : Int) by omega, u64_small (by omega)]
theorem u8_in {x : Int} (h : 0 ≤ x ∧ x ≤ 255) : IntKind.u8.wrap x = x := IntWalk.u8_in _ h






end Go.SL
