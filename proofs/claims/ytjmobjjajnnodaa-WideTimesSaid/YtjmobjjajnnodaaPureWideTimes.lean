/- rickyardlaw01.WideTimes. No conditions. -/
import Derived.Test.YtjmobjjajnnodaaWidePure1
import Derived.Test.YtjmobjjajnnodaaPrickyardlaw01WideTimes
namespace Go.Proofs.Ytjmobjjajnnodaa.Pure
open Go.RowKit Go.Proofs.Ytjmobjjajnnodaa.P Go.Proofs.YtjmobjjajnnodaaW.PrintWords Go.Proofs.YtjmobjjajnnodaaW.PrintLast
set_option linter.unusedVariables false

theorem wtimes_l0 (v n : Int) (few : Nat) (hv : -9223372036854775808 ≤ v) (hv' : v < 9223372036854775808) (hn : 0 ≤ n) (hn' : n < 18446744073709551616) (hf : few < 256) :
    ∀ (d : Nat) (k i : Nat), i + d = few → rickyardlaw01_WideTimes.l0 (k + 61 + d) v n few (i : Int) (mkHi (v * i)) (mkLo (v * i)) = some true := by
  intro d
  induction d with
  | zero =>
    intro k i hi
    obtain rfl : i = few := by omega
    rw [show k + 61 + 0 = (k + 60) + 1 from rfl, rickyardlaw01_WideTimes.l0]
    rw [if_neg (by unfold wrap64; omega), wrap_u64_id _ (by omega) (by omega), times_f v _ hv hv' (by omega) (by omega)]
    simp only [Option.bind_some]
    rw [if_neg (by simp), alive01_f _ (by omega)]
    simp only [Option.bind_some, if_true]
    by_cases hz : n = 0
    · rw [if_pos hz]
    · rw [if_neg hz, times_f v n hv hv' hn hn', wrap_u64_id _ (by omega) (by omega), times_f v (n - 1) hv hv' (by omega) (by omega), of_f v hv hv']
      simp only [Option.bind_some]
      rw [add_mk_mk]
      simp only [Option.bind_some]
      rw [show v * (n - 1) + v = v * n from by rw [Int.mul_sub, Int.mul_one]; omega]
      simp
  | succ d ih =>
    intro k i hi
    rw [show k + 61 + (d + 1) = (k + 61 + d) + 1 from rfl, rickyardlaw01_WideTimes.l0]
    rw [if_pos (by unfold wrap64; omega), of_f v hv hv']
    simp only [Option.bind_some]
    rw [add_mk_mk]
    simp only [Option.bind_some]
    rw [show wrap64 ((i : Int) + 1) = ((i + 1 : Nat) : Int) from by unfold wrap64; omega, show v * (i : Int) + v = v * ((i + 1 : Nat) : Int) from by rw [Int.natCast_add, Int.mul_add]; omega]
    exact ih k (i + 1) (by omega)

theorem WideTimes : rickyardlaw01_WideTimes.Pure := by
  intro v n few h1 h2 h3
  have hv := of_wf_i64 h1
  have hn := of_wf_u64 h2
  have hf := of_wf_u8 h3
  obtain ⟨F, rfl⟩ := Int.eq_ofNat_of_zero_le hf.1
  refine ⟨0 + 61 + F, ?_⟩
  unfold rickyardlaw01_WideTimes.f
  rw [of_f 0 (by decide) (by decide)]
  simp only [Option.bind_some]
  have := wtimes_l0 v n F hv.1 hv.2 hn.1 hn.2 (by omega) F 0 0 (by omega)
  rw [show v * ((0 : Nat) : Int) = 0 from by simp] at this
  exact this

end Go.Proofs.Ytjmobjjajnnodaa.Pure
