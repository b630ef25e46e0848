/- rickyardlaw01.WideOrders: which of two numbers is the greater one is what the reference tells. No conditions. -/
import Derived.Test.YtjmobjjajnnodaaWidePure1
import Derived.Test.YtjmobjjajnnodaaERefCmp
import Derived.Test.YtjmobjjajnnodaaPrickyardlaw01WideOrders
namespace Go.Proofs.Ytjmobjjajnnodaa.Pure
open Go.RowKit Go.Proofs.Ytjmobjjajnnodaa.P Go.Proofs.YtjmobjjajnnodaaW.PrintWords Go.Proofs.YtjmobjjajnnodaaW.PrintLast
set_option linter.unusedVariables false

def num (f : Nat → Nat) : Nat → Nat
  | 0 => 0
  | n + 1 => f n * 256 ^ n + num f n
theorem num_lt {f : Nat → Nat} (h : ∀ j, f j < 256) (n : Nat) : num f n < 256 ^ n := by
  induction n with
  | zero => exact Nat.one_pos
  | succ n ih =>
    rw [num, Nat.pow_succ]
    have h1 : f n * 256 ^ n ≤ 255 * 256 ^ n := Nat.mul_le_mul_right _ (by have := h n; omega)
    omega
theorem cmpD_num {f g : Nat → Nat} (hf : ∀ j, f j < 256) (hg : ∀ j, g j < 256) (n : Nat) : cmpD f g n = if num f n < num g n then -1 else if num g n < num f n then 1 else 0 := by
  induction n with
  | zero => rfl
  | succ n ih =>
    have h1 := num_lt hf n
    have h2 := num_lt hg n
    rw [cmpD, num, num]
    by_cases c1 : f n < g n
    · have h3 : (f n + 1) * 256 ^ n ≤ g n * 256 ^ n := Nat.mul_le_mul_right _ c1
      rw [Nat.add_mul] at h3
      rw [if_pos c1, if_pos (by omega)]
    · rw [if_neg c1]
      by_cases c2 : g n < f n
      · have h3 : (g n + 1) * 256 ^ n ≤ f n * 256 ^ n := Nat.mul_le_mul_right _ c2
        rw [Nat.add_mul] at h3
        rw [if_pos c2, if_neg (by omega), if_pos (by omega)]
      · rw [if_neg c2, ih, show f n = g n by omega]
        simp only [Nat.add_lt_add_iff_left]
theorem num_congr {f g : Nat → Nat} (n : Nat) (h : ∀ j, j < n → f j = g j) : num f n = num g n := by
  induction n with
  | zero => rfl
  | succ n ih => rw [num, num, h n (by omega), ih (fun j hj => h j (by omega))]
theorem num_dg (x n : Nat) : num (dg x) n = x % 256 ^ n := by
  induction n with
  | zero => rw [num, Nat.pow_zero, Nat.mod_one]
  | succ n ih => rw [num, ih, dg, Nat.pow_succ, Nat.mod_mul, Nat.mul_comm (256 ^ n)]; omega
theorem num_tu (x : Nat) : num (tu (dg x)) 16 = (x / 1329227995784915872903807060280344576 % 256 + 128) % 256 * 1329227995784915872903807060280344576 + x % 1329227995784915872903807060280344576 := by
  rw [num, num_congr (f := tu (dg x)) (g := dg x) 15 (fun j hj => by unfold tu; rw [if_neg (by omega)]), num_dg]
  unfold tu dg
  rw [if_pos rfl, show (256 : Nat) ^ 15 = 1329227995784915872903807060280344576 from rfl]
theorem num_big (a0 a1 : Int) (h1 : 0 ≤ a1) (h2 : a1 < 18446744073709551616) (h3 : -9223372036854775808 ≤ a0) (h4 : a0 < 9223372036854775808) : (num (tu (dg (big a0 a1))) 16 : Int) = vl a0 a1 + 170141183460469231731687303715884105728 := by
  rw [num_tu]
  have hX : ((big a0 a1 : Nat) : Int) = if a0 < 0 then vl a0 a1 + 340282366920938463463374607431768211456 else vl a0 a1 := by
    unfold big bigOf vl
    rw [IntKind.wrap_u64]
    split <;> omega
  have hr : (if a0 < 0 then (170141183460469231731687303715884105728 ≤ big a0 a1 ∧ big a0 a1 < 340282366920938463463374607431768211456) else big a0 a1 < 170141183460469231731687303715884105728) := by
    split
    · next h => rw [if_pos h] at hX; unfold vl at hX; omega
    · next h => rw [if_neg h] at hX; unfold vl at hX; omega
  generalize big a0 a1 = X at hX hr ⊢
  generalize vl a0 a1 = v at hX ⊢
  split at hX
  · next h => rw [if_pos h] at hr; omega
  · next h => rw [if_neg h] at hr; omega
theorem refCmp_f (k : Nat) (a0 a1 b0 b1 : Int) (h1 : 0 ≤ a1) (h2 : a1 < 18446744073709551616) (h3 : 0 ≤ b1) (h4 : b1 < 18446744073709551616) (ha : -9223372036854775808 ≤ a0 ∧ a0 < 9223372036854775808) (hb : -9223372036854775808 ≤ b0 ∧ b0 < 9223372036854775808) : rickyardref01_Cmp.f a0 a1 b0 b1 = wide_Cmp.f (k + 1) a0 a1 b0 b1 := by
  unfold rickyardref01_Cmp.f
  rw [if_pos ⟨h1, h2, h3, h4⟩, cmp_f k a0 a1 b0 b1 h1 h2 h3 h4, refCmp, cmpD_num (tu_lt (dg_lt _)) (tu_lt (dg_lt _))]
  have e1 := num_big a0 a1 h1 h2 ha.1 ha.2
  have e2 := num_big b0 b1 h3 h4 hb.1 hb.2
  generalize num (tu (dg (big a0 a1))) 16 = x at e1 ⊢
  generalize num (tu (dg (big b0 b1))) 16 = y at e2 ⊢
  generalize vl a0 a1 = v at e1 ⊢
  generalize vl b0 b1 = u at e2 ⊢
  congr 1
  by_cases c1 : v < u
  · rw [if_pos c1, if_pos (by omega)]
  · rw [if_neg c1, if_neg (by omega)]
    by_cases c2 : v = u
    · rw [if_pos c2, if_neg (by omega)]
    · rw [if_neg c2, if_pos (by omega)]
theorem WideOrders_walk (a0 a1 b0 b1 : Int) (w : World) (p0 : (Lit.int .i64 a0).wf = true) (p1 : (Lit.int .u64 a1).wf = true) (q0 : (Lit.int .i64 b0).wf = true) (q1 : (Lit.int .u64 b1).wf = true) :
    Calls Try.prog 3 #[.agg #[.int .i64 a0, .int .u64 a1], .agg #[.int .i64 b0, .int .u64 b1]] w fun e w' => e = .returned (.bool true) ∧ Below w.heap.size w w' := by
  have pa := of_wf_i64 p0
  have pb := of_wf_u64 p1
  have pc := of_wf_i64 q0
  have pd := of_wf_u64 q1
  refine rickyardlaw01_WideOrders.calls 61 a0 a1 b0 b1 true w ?_ rfl
  unfold rickyardlaw01_WideOrders.f
  rw [alive01_f 61 (by decide), show (61 : Nat) = 60 + 1 from rfl, refCmp_f 60 a0 a1 b0 b1 pb.1 pb.2 pd.1 pd.2 pa pc, cmp_f 60 a0 a1 b0 b1 pb.1 pb.2 pd.1 pd.2]
  simp only [Option.bind_some, if_true, beq_self_eq_true]

end Go.Proofs.Ytjmobjjajnnodaa.Pure
