import Derived.Test.YtjgicfkhdclaeaaJE
import Derived.Test.YtjgicfkhdclaeaaRows
import Derived.WalkKit
import Derived.ProofKit
import Derived.OpenShut
import Derived.Lib.Hide
set_option linter.all false
namespace Go.Proofs.Ytjgicfkhdclaeaa
open Go.RowKit

theorem tmod_mod (n m : Int) : n % m = n.tmod m % m := by
  have h := Int.mul_tdiv_add_tmod n m
  calc n % m = (m * n.tdiv m + n.tmod m) % m := by rw [h]
    _ = n.tmod m % m := by rw [Int.add_comm, Int.add_mul_emod_self_left]
theorem tmod_neg {n m : Int} (hm : 1 ≤ m) (h : n.tmod m < 0) : n % m = n.tmod m + m := by
  have h1 := Int.lt_tmod_of_pos n (show 0 < m by omega)
  rw [tmod_mod, ← Int.add_emod_right, Int.emod_eq_of_lt (by omega) (by omega)]
theorem tmod_pos {n m : Int} (hm : 1 ≤ m) (h : 0 ≤ n.tmod m) : n % m = n.tmod m := by
  rw [tmod_mod, Int.emod_eq_of_lt h (Int.tmod_lt_of_pos n (by omega))]
theorem wrap_small {n : Int} (h1 : -9223372036854775808 ≤ n) (h2 : n ≤ 9223372036854775807) : wrap64 n = n := by
  unfold wrap64; omega
theorem mod_any (n m : Int) (w : World) (hm : 1 ≤ m) (hm2 : m ≤ 1000000) :
    Calls Try.prog 8 #[.int .i64 n, .int .i64 m] w fun e w' => e = .returned (.int .i64 (n % m)) ∧ w = w' := by
  have hm0 : ¬ m < 1 := by omega
  have hmz : m ≠ 0 := by omega
  by_cases hn : n.tmod m < 0
  · have h1 := Int.lt_tmod_of_pos n (show 0 < m by omega)
    have e := tmod_neg hm hn
    have H := Lib.hid e
    clear e
    go_enter Try.func8, Try.ntmps8
    go_wp2
    go_ret
    exact ⟨congrArg (fun z => Ending.returned (.int .i64 z)) H.out.symm, rfl⟩
  · have e := tmod_pos hm (show 0 ≤ n.tmod m by omega)
    have H := Lib.hid e
    clear e
    go_enter Try.func8, Try.ntmps8
    go_wp2
    go_ret
    exact ⟨congrArg (fun z => Ending.returned (.int .i64 z)) H.out.symm, rfl⟩
end Go.Proofs.Ytjgicfkhdclaeaa
