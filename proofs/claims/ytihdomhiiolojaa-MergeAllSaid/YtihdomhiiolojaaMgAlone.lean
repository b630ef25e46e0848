/- MergeAlone's function comes to true. No conditions. -/
import Derived.Test.YtihdomhiiolojaaMgPure
import Derived.Test.YtihdomhiiolojaaMgAlive
namespace Go.Proofs.Ytihdomhiiolojaa.P
open Go.RowKit Go.Proofs.YtihdomhiiolojaaW.PrintWords Go.Proofs.YtihdomhiiolojaaW.PrintLast Go.Proofs.YtihdomhiiolojaaW.PrintMore Go.Proofs.Ytihdomhiiolojaa.Pure
set_option linter.unusedVariables false
set_option linter.unusedSimpArgs false

theorem C_rows3 {W : World} {A B D : Option Addr} {l m n : List En} (hl : k41.C W A l.length l) (hm : k41.C W B m.length m) (hn : k41.C W D n.length n) {a b c : Nat} (ha : l.length ≤ a) (hb : m.length ≤ b) (hc : n.length ≤ c) :
    Kd.C (Kd.slice 41 k41) (W.alloc (.cells #[.slice A l.length a, .slice B m.length b, .slice D n.length c] 44)) (some ⟨W.heap.size, 0, none⟩) 3 [l, m, n] := by
  have h0 := blk_new W (.cells #[.slice A l.length a, .slice B m.length b, .slice D n.length c] 44)
  refine ⟨rfl, by decide, fun _ => ⟨_, rfl, fun j p hj => ?_⟩⟩
  match j, hj with
  | 0, hj =>
    obtain rfl := Option.some.inj hj
    refine ⟨_, rfl, ⟨A, a, rfl, ha, Kd.C_alloc hl _⟩, fun i u hu => ?_⟩
    rw [add_mk]
    refine (blk_cell h0 _).trans ?_
    match i, hu with
    | 0, hu => exact hu
    | i + 1, hu => simp at hu
  | 1, hj =>
    obtain rfl := Option.some.inj hj
    refine ⟨_, rfl, ⟨B, b, rfl, hb, Kd.C_alloc hm _⟩, fun i u hu => ?_⟩
    rw [add_mk]
    refine (blk_cell h0 _).trans ?_
    match i, hu with
    | 0, hu => exact hu
    | i + 1, hu => simp at hu
  | 2, hj =>
    obtain rfl := Option.some.inj hj
    refine ⟨_, rfl, ⟨D, c, rfl, hc, Kd.C_alloc hn _⟩, fun i u hu => ?_⟩
    rw [add_mk]
    refine (blk_cell h0 _).trans ?_
    match i, hu with
    | 0, hu => exact hu
    | i + 1, hu => simp at hu
  | j + 3, hj => simp at hj
theorem alone_all {l : List (List En)} (hs : Small l) (h1 : RowsR l) (h2 : RightR l) (h4 : (allM l).length ≤ 1200) : merge_All.f [[], allM l, []] = some (allM l, 0) := by
  obtain ⟨r1, r2, r3⟩ := allM_spec h1
  have hg3 := allM_good h1 h2
  have hself := allM_self r1 r2
  have hR : RowsR [[], allM l, []] := by
    intro r hr
    simp only [List.mem_cons, List.not_mem_nil, or_false] at hr
    rcases hr with rfl | rfl | rfl
    · exact ⟨by simp [Rises], fun x hx => by cases hx⟩
    · exact ⟨r1, r2⟩
    · exact ⟨by simp [Rises], fun x hx => by cases hx⟩
  have hG : RightR [[], allM l, []] := by
    intro r hr
    simp only [List.mem_cons, List.not_mem_nil, or_false] at hr
    rcases hr with rfl | rfl | rfl
    · exact fun x hx => by cases hx
    · exact hg3
    · exact fun x hx => by cases hx
  unfold merge_All.f
  rw [if_pos, if_pos (newE_of hR hG), hself]
  refine ⟨by simp, fun r hr x hx => ?_, by simp [cntL]; omega⟩
  simp only [List.mem_cons, List.not_mem_nil, or_false] at hr
  rcases hr with rfl | rfl | rfl
  · cases hx
  · exact ⟨by have := allM_key hs h1 x hx; omega, (hg3 x hx).1.2.2.1⟩
  · cases hx
set_option maxHeartbeats 4000000 in
set_option maxRecDepth 100000 in
theorem MergeAlone_walk (A0 : Option Addr) (c0 : Nat) (l0 : List (List En)) (w : World) (hr0 : Kd.C (Kd.slice 41 k41) w A0 l0.length l0) (hc0 : l0.length ≤ c0) (hb : OkRows l0) :
    Calls Try.prog 8 #[.slice A0 l0.length c0] w fun e w' => e = .returned (.bool true) ∧ Below w.heap.size w w' := by
  obtain ⟨b, ⟨k, hg⟩, hsm⟩ := great_f l0
  have HGR := Aside0.mk (rickyardlaw14_Great.calls k A0 c0 l0 b w hr0 hc0 hg)
  have HR := Aside0.mk hr0
  have HC0 := Aside0.mk hc0
  clear hg hr0 hc0
  cases b with
  | true =>
    clear hsm
    go_enter Try.func8, Try.ntmps8
    go_wp2_with (first
      | (go_at_call 10; refine (HGR.out).mono ?_; rintro e w1 ⟨rfl, hd⟩; have HB1 := Aside0.mk hd.below; clear hd)
      | (go_at_call 11; refine (rickyardlaw14_alive.calls true _ rfl).mono ?_; rintro e w2 ⟨rfl, hb⟩; have HB2 := Aside0.mk (below_step HB1.out hb); clear hb))
    refine bodyPost_ret (results_tmp rfl _ _ _) rfl ?_
    exact ⟨rfl, HB2.out⟩
  | false =>
    have hs := hsm rfl
    rcases all_f hs hb with ⟨er, h0, _, h1⟩ | ⟨h1, h2, h3, h4⟩
    · have e1 : (er == 0) = false := beq_eq_false_iff_ne.2 h0
      have HA := Aside0.mk (fun W (hW : Below w.heap.size w W) => merge_All.calls A0 c0 l0 [] er W (Kd.C_below HR.out hW) HC0.out h1)
      clear hsm hs h1 h0 hb
      go_enter Try.func8, Try.ntmps8
      go_wp2_with (first
        | (go_at_call 10; refine (HGR.out).mono ?_; rintro e w1 ⟨rfl, hd⟩; have HB1 := Aside0.mk hd.below; clear hd)
        | (go_at_call 16; refine (HA.out _ HB1.out).mono ?_; rintro e w2 ⟨v2, rfl, ho, hb⟩; obtain ⟨A2, c2, rfl⟩ := Kd.S_slice ho; have HB2 := Aside0.mk (below_step HB1.out hb); clear hb ho)
        | (go_at_call 11; refine (rickyardlaw14_alive.calls true _ rfl).mono ?_; rintro e w3 ⟨rfl, hb⟩; have HB3 := Aside0.mk (below_step HB2.out hb); clear hb))
      refine bodyPost_ret (results_tmp rfl _ _ _) rfl ?_
      exact ⟨rfl, HB3.out⟩
    · have hall := alone_all hs h1 h2 h4
      have HA := Aside0.mk (fun W (hW : Below w.heap.size w W) => merge_All.calls A0 c0 l0 (allM l0) 0 W (Kd.C_below HR.out hW) HC0.out h3)
      obtain ⟨m, hm⟩ : ∃ m, allM l0 = m := ⟨_, rfl⟩
      rw [hm] at HA hall h4
      have HM := Aside0.mk (And.intro hall h4)
      clear hsm hs h1 h2 h3 hb hall h4 hm
      go_enter Try.func8, Try.ntmps8
      go_upto_region 6 with (first
        | (go_at_call 10; refine (HGR.out).mono ?_; rintro e w1 ⟨rfl, hd⟩; have HB1 := Aside0.mk hd.below; clear hd)
        | (go_at_call 16; refine (HA.out _ HB1.out).mono ?_; rintro e w2 ⟨v2, rfl, ho, hb⟩; obtain ⟨A2, c2, rfl⟩ := Kd.S_slice ho; have HB2 := Aside0.mk (below_step HB1.out hb); have HO2 := Aside0.mk ho; clear hb ho))
      have HA2 := Aside0.mk (show ∀ V, V = (w2.alloc (.cells #[] 41)).alloc (.cells #[.slice none 0 0, .slice A2 m.length c2, .slice (some ⟨w2.heap.size, 0, none⟩) 0 0] 44) → Calls Try.prog 16 #[.slice (some ⟨w2.heap.size + 1, 0, none⟩) 3 3] V fun e w' => ∃ v0_, e = .returned (.tuple #[v0_, .int .i64 0]) ∧ Kd.S k41 41 w' V.heap.size (fun _ => True) v0_ m ∧ Below w2.heap.size w2 w' from by
        rintro V rfl
        have hc := C_rows3 (W := w2.alloc (.cells #[] 41)) (A := none) (l := []) (D := some ⟨w2.heap.size, 0, none⟩) (n := []) (a := 0) (c := 0) (Kd.C_nil _ _) (Kd.C_alloc (Kd.S_reads' HO2.out).2.2 _) ⟨rfl, by decide, fun h => absurd h (by decide)⟩ (Nat.le_refl 0) (Kd.S_reads' HO2.out).2.1 (Nat.le_refl 0)
        rw [World.size_alloc] at hc
        refine (merge_All.calls _ 3 [[], m, []] m 0 _ hc (Nat.le_refl 3) HM.out.1).mono ?_
        rintro e w' ⟨v, rfl, ho, hb⟩
        exact ⟨v, rfl, ho, (below_alloc (below_alloc (Below.refl _ _) _) _).trans (hb.mono (by simp; omega))⟩)
      have i3 : decide ((m.length : Int) = (m.length : Int)) = true := decide_eq_true rfl
      go_wp2_with (first
        | (go_at_call 16; refine (HA2.out _ rfl).mono ?_; rintro e w3 ⟨v3, rfl, ho, hb⟩; obtain ⟨A3, c3, rfl⟩ := Kd.S_slice ho; have HB3 := Aside0.mk hb; have HO3 := Aside0.mk ho; clear hb ho)
        | (go_at_call 11; refine (rickyardlaw14_alive.calls true _ rfl).mono ?_; rintro e w4 ⟨rfl, hb⟩; have HB4 := Aside0.mk hb; clear hb)
        | (go_at_call 18; refine (rickyardref08_Same.calls 1300 A2 c2 m A3 c3 m true w4 (Kd.C_below (Kd.S_reads' HO2.out).2.2 (below_step HB3.out HB4.out)) (Kd.S_reads' HO2.out).2.1 (Kd.C_below (Kd.S_reads' HO3.out).2.2 HB4.out) (Kd.S_reads' HO3.out).2.1 (same_f m (by have := HM.out.2; omega) 1300 (by have := HM.out.2; omega))).mono ?_; rintro e w5 ⟨rfl, hd⟩; have HB5 := Aside0.mk hd.below; clear hd))
      refine bodyPost_ret (results_tmp rfl _ _ _) rfl ?_
      exact ⟨rfl, below_step HB2.out (below_step (below_step HB3.out HB4.out) HB5.out)⟩
end Go.Proofs.Ytihdomhiiolojaa.P
