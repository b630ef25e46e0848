/- rickyardlaw01.WideExact. No conditions. -/
import Derived.Test.YtjmobjjajnnodaaWidePure1
import Derived.Test.YtjmobjjajnnodaaPrickyardlaw01WideExact
namespace Go.Proofs.Ytjmobjjajnnodaa.Pure
open Go.RowKit Go.Proofs.Ytjmobjjajnnodaa.P Go.Proofs.YtjmobjjajnnodaaW.PrintWords Go.Proofs.YtjmobjjajnnodaaW.PrintLast
set_option linter.unusedVariables false

theorem wexact_l0 (l : List Int) (hl : l.length ≤ 2000) (hw : ∀ x ∈ l, -9223372036854775808 ≤ x ∧ x < 9223372036854775808) :
    ∀ (d : Nat) (k i : Nat) (up down : Int), i + d = l.length → 0 ≤ up → up ≤ i * 9223372036854775808 → 0 ≤ down → down ≤ i * 9223372036854775808 →
      rickyardlaw01_WideExact.l0 (k + 61 + d) l (i : Int) (mkHi up) (mkLo up) (mkHi down) (mkLo down) (mkHi (up - down)) (mkLo (up - down)) = some true := by
  intro d
  induction d with
  | zero =>
    intro k i up down hi hu hu' hd hd'
    have u1 : up < 170141183460469231731687303715884105728 := by omega
    have d1 : down < 170141183460469231731687303715884105728 := by omega
    rw [show k + 61 + 0 = (k + 60) + 1 from rfl, rickyardlaw01_WideExact.l0]
    rw [if_neg (by omega), alive01_f _ (by omega)]
    simp only [Option.bind_some, if_true]
    have hu2 : mkHi up ≥ 0 := by unfold mkHi wrap64; omega
    have hd2 : mkHi down ≥ 0 := by unfold mkHi wrap64; omega
    rw [if_pos hu2, if_pos hd2, add_mk_mk]
    simp only [Option.bind_some]
    rw [show up - down + down = up from by omega, if_pos (by simp), of_f 0 (by decide) (by decide)]
    simp only [Option.bind_some]
    rw [show k + 60 = (k + 59) + 1 from rfl, cmp_f _ _ _ _ _ (mkLo_nn _) (mkLo_lt _) (mkLo_nn _) (mkLo_lt _), cmp_f _ _ _ _ _ (mkLo_nn _) (mkLo_lt _) (mkLo_nn _) (mkLo_lt _)]
    rw [vl_mk _ (by omega) (by omega), vl_mk 0 (by decide) (by decide), vl_mk _ (by omega) (by omega), vl_mk _ (by omega) (by omega)]
    simp only [Option.bind_some]
    have e1 : (up - down < 0) = (up < down) := by apply propext; omega
    have e2 : (up - down = 0) = (up = down) := by apply propext; omega
    simp only [e1, e2, beq_self_eq_true]
  | succ d ih =>
    intro k i up down hi hu hu' hd hd'
    have hlt : i < l.length := by omega
    have hx : rd l (i : Int) = l[i] := by simp [rd, List.getD_eq_getElem?_getD, hlt]
    have hwx := hw l[i] (List.getElem_mem hlt)
    rw [show k + 61 + (d + 1) = (k + 61 + d) + 1 from rfl, rickyardlaw01_WideExact.l0]
    rw [if_pos (by omega), if_pos (by omega), hx]
    generalize l[i] = x at *
    rw [of_f x hwx.1 hwx.2]
    simp only [Option.bind_some]
    rw [add_mk_mk]
    simp only [Option.bind_some]
    rw [show wrap64 ((i : Int) + 1) = ((i + 1 : Nat) : Int) from by unfold wrap64; omega]
    by_cases hx0 : x ≥ 0
    · rw [if_pos hx0, add_mk_mk]
      simp only [Option.bind_some]
      rw [show up - down + x = (up + x) - down from by omega]
      exact ih k (i + 1) (up + x) down (by omega) (by omega) (by omega) hd (by omega)
    · rw [if_neg hx0, neg_mk_mk]
      simp only [Option.bind_some]
      rw [add_mk_mk]
      simp only [Option.bind_some]
      rw [show up - down + x = up - (down + -x) from by omega]
      exact ih k (i + 1) up (down + -x) (by omega) hu (by omega) (by omega) (by omega)

theorem WideExact : rickyardlaw01_WideExact.Pure := by
  intro l _ _ hw
  by_cases hl : (l.length : Int) > 2000
  · refine ⟨60, ?_⟩
    unfold rickyardlaw01_WideExact.f
    rw [if_pos hl, alive01_f _ (by omega)]
    rfl
  · refine ⟨0 + 61 + l.length, ?_⟩
    unfold rickyardlaw01_WideExact.f
    rw [if_neg hl, of_f 0 (by decide) (by decide)]
    simp only [Option.bind_some]
    exact wexact_l0 l (by omega) (fun x hx => of_wf_i64 (hw x hx)) l.length 0 0 0 0 (by omega) (by omega) (by omega) (by omega) (by omega)

end Go.Proofs.Ytjmobjjajnnodaa.Pure
