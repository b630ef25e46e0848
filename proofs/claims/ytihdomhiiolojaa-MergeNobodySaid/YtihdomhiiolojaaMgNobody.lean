/- MergeNobody's function comes to true. No conditions. -/
import Derived.Test.YtihdomhiiolojaaMgAlive
namespace Go.Proofs.Ytihdomhiiolojaa.P
open Go.RowKit Go.Proofs.YtihdomhiiolojaaW.PrintWords Go.Proofs.YtihdomhiiolojaaW.PrintLast Go.Proofs.YtihdomhiiolojaaW.PrintMore
set_option linter.unusedVariables false
set_option linter.unusedSimpArgs false

set_option maxHeartbeats 4000000 in
set_option maxRecDepth 100000 in
theorem MergeNobody_walk (w : World) : Calls Try.prog 5 #[] w fun e w' => e = .returned (.bool true) ∧ Below w.heap.size w w' := by
  have hu := Try.underlying41
  have hu2 := Try.underlying50
  go_enter Try.func5, Try.ntmps5
  go_upto_region 4 with (first
    | (go_at_call 14; refine (Next_none _).mono ?_; rintro e w9 ⟨rfl, hb⟩; have HB9 := Aside0.mk (below_step (below_alloc (Below.refl w.heap.size w) _) hb); have HG9 := Aside0.mk ((hb.block w.heap.size (by simp)).trans (blk_new w _)); clear hb))
  obtain ⟨V, hV⟩ : ∃ V, w9.alloc (.cells #[.slice none 0 0, .int .u64 0, .bool false, .int .i64 0, .int .u64 0, .int .i64 0, .int .i64 0] 41) = V := ⟨_, rfl⟩
  have HVB := Aside0.mk (show Below w.heap.size w V by rw [← hV]; exact below_alloc HB9.out _)
  have HVG := Aside0.mk (show V.heap[w.heap.size]? = some (.cells #[.slice none 0 0] 50 (0, 0)) by rw [← hV]; exact blk_alloc HG9.out _)
  rw [hV]
  clear hV
  go_upto_region 5 with (first
    | (go_at_call 14; refine (Next_empty w.heap.size none 0 V HVG.out).mono ?_; rintro e w10 ⟨rfl, hb⟩; have HB10 := Aside0.mk (below_step HVB.out hb); clear hb))
  obtain ⟨U, hU⟩ : ∃ U, w10.alloc (.cells #[.slice none 0 0, .int .u64 0, .bool false, .int .i64 0, .int .u64 0, .int .i64 0, .int .i64 0] 41) = U := ⟨_, rfl⟩
  have HUB := Aside0.mk (show Below w.heap.size w U by rw [← hU]; exact below_alloc HB10.out _)
  rw [hU]
  clear hU
  go_wp2_with (first
    | (go_at_call 11; refine (rickyardlaw14_alive.calls true U rfl).mono ?_; rintro e w11 ⟨rfl, hb⟩; have HB11 := Aside0.mk (below_step HUB.out hb); clear hb))
  refine bodyPost_ret (results_tmp rfl _ _ _) rfl ?_
  exact ⟨rfl, HB11.out⟩
end Go.Proofs.Ytihdomhiiolojaa.P
