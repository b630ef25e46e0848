/- MergeOrder's function comes to true. No conditions. -/
import Derived.Test.YtihdomhiiolojaaMgAlone
namespace Go.Proofs.Ytihdomhiiolojaa.Pure
open Go.RowKit Go.Proofs.Ytihdomhiiolojaa.P Go.Proofs.YtihdomhiiolojaaW.PrintWords Go.Proofs.YtihdomhiiolojaaW.PrintLast
set_option linter.unusedVariables false
set_option linter.unusedSimpArgs false

theorem i64_and1023 (n : Int) : Go.bits .and .i64 n 1023 = n % 1024 := by
  have h127 : (BitVec.ofInt 64 1023).toNat = 2 ^ 10 - 1 := by decide
  have key : (BitVec.ofInt 64 n &&& BitVec.ofInt 64 1023).toNat = (n % ((2 ^ 64 : Nat) : Int)).toNat % 2 ^ 10 := by
    rw [BitVec.toNat_and, BitVec.toNat_ofInt, h127, Nat.and_two_pow_sub_one_eq_mod]
  show IntKind.i64.wrap ((BitVec.ofInt 64 n &&& BitVec.ofInt 64 1023).toNat : Nat) = n % 1024
  rw [key, IntKind.wrap_i64]
  omega
/-- The rows, turned by t places. -/
def turnedL (l : List (List En)) (t n : Nat) : List (List En) := (List.range n).map fun i => l.getD ((i + t) % l.length) []
theorem turnedL_succ (l : List (List En)) (t n : Nat) : turnedL l t (n + 1) = turnedL l t n ++ [l.getD ((n + t) % l.length) []] := by
  unfold turnedL
  rw [List.range_succ, List.map_append]; rfl
theorem turnedL_eq (l : List (List En)) (t : Nat) (h0 : 0 < l.length) : turnedL l t l.length = l.drop (t % l.length) ++ l.take (t % l.length) := by
  have hr := Nat.mod_lt t h0
  obtain ⟨r, hre⟩ : ∃ r, t % l.length = r := ⟨_, rfl⟩
  rw [hre] at hr ⊢
  apply List.ext_getElem?
  intro i
  unfold turnedL
  rw [List.getElem?_map]
  by_cases hi : i < l.length
  · rw [List.getElem?_range hi]
    simp only [Option.map_some]
    have hm : (i + t) % l.length = (i + r) % l.length := by rw [Nat.add_mod, hre, Nat.mod_eq_of_lt hi]
    rw [hm, List.getElem?_append, List.length_drop]
    by_cases h1 : i + r < l.length
    · rw [Nat.mod_eq_of_lt h1, if_pos (by omega), List.getElem?_drop, List.getD_eq_getElem?_getD, List.getElem?_eq_getElem h1, show r + i = i + r by omega, List.getElem?_eq_getElem h1]; rfl
    · have : (i + r) % l.length = i + r - l.length := by rw [Nat.mod_eq_sub_mod (by omega), Nat.mod_eq_of_lt (by omega)]
      rw [this, if_neg (by omega), List.getElem?_take_of_lt (by omega), List.getD_eq_getElem?_getD, List.getElem?_eq_getElem (by omega), show i - (l.length - r) = i + r - l.length by omega, List.getElem?_eq_getElem (by omega)]; rfl
  · rw [List.getElem?_eq_none (by simp; omega), List.getElem?_eq_none (by simp; omega)]; rfl
theorem turned_perm (l : List (List En)) (t : Nat) : (turnedL l t l.length).Perm l := by
  by_cases h0 : l.length = 0
  · have : l = [] := List.length_eq_zero_iff.1 h0
    subst this
    exact List.Perm.refl _
  · rw [turnedL_eq l t (by omega)]
    exact List.perm_append_comm.trans (by rw [List.take_append_drop])
theorem all_perm {l m : List (List En)} (h : m.Perm l) (h1 : RowsR l) (h2 : RightR l) : allM m = allM l := by
  have h1' : RowsR m := fun r hr => h1 r (h.subset hr)
  obtain ⟨a1, a2, a3⟩ := allM_spec h1
  obtain ⟨b1, b2, b3⟩ := allM_spec h1'
  refine rises_ext b1 a1 b2 a2 (fun k => ?_)
  rw [a3, b3]
  have hp : m.flatten.Perm l.flatten := h.flatten
  refine fold1_perm ?_ (gk_good (flat_good (fun r hr => h2 r (h.subset hr))))
  unfold gk
  exact (hp.filter _).map _
theorem fold1_two {x y x' y' : List Ag} (hx : ∀ a ∈ x, GoodA a) (hy : ∀ a ∈ y, GoodA a) (h : fold1 x' = fold1 x) (g : fold1 y' = fold1 y) (hx' : ∀ a ∈ x', GoodA a) (hy' : ∀ a ∈ y', GoodA a) : fold1 (x' ++ y') = fold1 (x ++ y) := by
  rw [fold1_app, fold1_app, h]
  cases hf : fold1 x with
  | none => exact g
  | some a =>
    simp only []
    have ha : GoodA a := by
      cases x with
      | nil => cases hf
      | cons b l =>
        obtain rfl := Option.some.inj hf
        exact good_fold (hx b (List.mem_cons_self ..)) (fun c hc => hx c (List.mem_cons_of_mem _ hc))
    have key : ∀ {z : List Ag}, (∀ b ∈ z, GoodA b) → z.foldl mgA a = match fold1 z with | none => a | some b => mgA a b := by
      intro z hz
      cases z with
      | nil => rfl
      | cons b l =>
        rw [List.foldl_cons]
        exact fold_pull ha (hz b (List.mem_cons_self ..)) (fun c hc => hz c (List.mem_cons_of_mem _ hc))
    rw [key hy', key hy, g]
theorem all_two {l : List (List En)} (n : Nat) (h1 : RowsR l) (h2 : RightR l) : allM [allM (l.take n), allM (l.drop n)] = allM l := by
  have t1 : RowsR (l.take n) := fun r hr => h1 r (List.mem_of_mem_take hr)
  have d1 : RowsR (l.drop n) := fun r hr => h1 r (List.mem_of_mem_drop hr)
  have t2 : RightR (l.take n) := fun r hr => h2 r (List.mem_of_mem_take hr)
  have d2 : RightR (l.drop n) := fun r hr => h2 r (List.mem_of_mem_drop hr)
  obtain ⟨a1, a2, a3⟩ := allM_spec h1
  obtain ⟨b1, b2, b3⟩ := allM_spec t1
  obtain ⟨c1, c2, c3⟩ := allM_spec d1
  have hS : RowsR [allM (l.take n), allM (l.drop n)] := by
    intro r hr
    simp only [List.mem_cons, List.not_mem_nil, or_false] at hr
    rcases hr with rfl | rfl
    · exact ⟨b1, b2⟩
    · exact ⟨c1, c2⟩
  obtain ⟨e1, e2, e3⟩ := allM_spec hS
  refine rises_ext e1 a1 e2 a2 (fun k => ?_)
  rw [e3, a3]
  have hf : l.flatten = (l.take n).flatten ++ (l.drop n).flatten := by rw [← List.flatten_append, List.take_append_drop]
  rw [hf, gk_append]
  simp only [List.flatten_cons, List.flatten_nil, List.append_nil]
  rw [gk_append]
  exact fold1_two (gk_good (flat_good t2)) (gk_good (flat_good d2)) (b3 k) (c3 k) (gk_good (allM_good t1 t2)) (gk_good (allM_good d1 d2))
theorem small_perm {l m : List (List En)} (h : m.Perm l) (hs : Small l) : Small m := ⟨by rw [h.length_eq]; exact hs.1, fun r hr => hs.2 r (h.subset hr)⟩
theorem small_take {l : List (List En)} (n : Nat) (hs : Small l) : Small (l.take n) := ⟨by rw [List.length_take]; have := hs.1; omega, fun r hr => hs.2 r (List.mem_of_mem_take hr)⟩
theorem small_drop {l : List (List En)} (n : Nat) (hs : Small l) : Small (l.drop n) := ⟨by rw [List.length_drop]; have := hs.1; omega, fun r hr => hs.2 r (List.mem_of_mem_drop hr)⟩
theorem all_f_ok {l : List (List En)} (hs : Small l) (ho : OkRows l) (h1 : RowsR l) (h2 : RightR l) : merge_All.f l = some (allM l, 0) := by
  unfold merge_All.f
  rw [if_pos (goodR hs ho), if_pos (newE_of h1 h2)]
theorem order_all {l : List (List En)} (hs : Small l) (ho : OkRows l) (h1 : RowsR l) (h2 : RightR l) (t n : Nat) :
    merge_All.f (turnedL l t l.length) = some (allM l, 0) ∧ merge_All.f (l.take n) = some (allM (l.take n), 0) ∧ merge_All.f (l.drop n) = some (allM (l.drop n), 0) ∧ merge_All.f [allM (l.take n), allM (l.drop n)] = some (allM l, 0) := by
  have hp := turned_perm l t
  have t1 : RowsR (l.take n) := fun r hr => h1 r (List.mem_of_mem_take hr)
  have d1 : RowsR (l.drop n) := fun r hr => h1 r (List.mem_of_mem_drop hr)
  have t2 : RightR (l.take n) := fun r hr => h2 r (List.mem_of_mem_take hr)
  have d2 : RightR (l.drop n) := fun r hr => h2 r (List.mem_of_mem_drop hr)
  refine ⟨?_, all_f_ok (small_take n hs) (fun r hr => ho r (List.mem_of_mem_take hr)) t1 t2, all_f_ok (small_drop n hs) (fun r hr => ho r (List.mem_of_mem_drop hr)) d1 d2, ?_⟩
  · rw [← all_perm hp h1 h2]
    exact all_f_ok (small_perm hp hs) (fun r hr => ho r (hp.subset hr)) (fun r hr => h1 r (hp.subset hr)) (fun r hr => h2 r (hp.subset hr))
  · obtain ⟨b1, b2, b3⟩ := allM_spec t1
    obtain ⟨c1, c2, c3⟩ := allM_spec d1
    have hl : ∀ {m : List (List En)}, Small m → (allM m).length ≤ 1200 := fun {m} hm => by
      have := allM_len (S := m)
      have h3 := cnt_le (l := m) (m := 60) (fun r hr => (hm.2 r hr).1)
      have h4 := hm.1
      omega
    have g1 := hl (small_take n hs)
    have g2 := hl (small_drop n hs)
    have k1 := allM_key (small_take n hs) t1
    have k2 := allM_key (small_drop n hs) d1
    have q1 := allM_good t1 t2
    have q2 := allM_good d1 d2
    have hS : RowsR [allM (l.take n), allM (l.drop n)] := by
      intro r hr
      simp only [List.mem_cons, List.not_mem_nil, or_false] at hr
      rcases hr with rfl | rfl
      · exact ⟨b1, b2⟩
      · exact ⟨c1, c2⟩
    have hG : RightR [allM (l.take n), allM (l.drop n)] := by
      intro r hr
      simp only [List.mem_cons, List.not_mem_nil, or_false] at hr
      rcases hr with rfl | rfl
      · exact q1
      · exact q2
    have e := all_two n h1 h2
    unfold merge_All.f
    rw [if_pos, if_pos (newE_of hS hG), e]
    refine ⟨by simp, fun r hr x hx => ?_, by simp [cntL]; omega⟩
    simp only [List.mem_cons, List.not_mem_nil, or_false] at hr
    rcases hr with rfl | rfl
    · exact ⟨by have := k1 x hx; omega, (q1 x hx).1.2.2.1⟩
    · exact ⟨by have := k2 x hx; omega, (q2 x hx).1.2.2.1⟩
end Go.Proofs.Ytihdomhiiolojaa.Pure
namespace Go.Proofs.Ytihdomhiiolojaa.P
open Go.RowKit Go.Proofs.YtihdomhiiolojaaW.PrintWords Go.Proofs.YtihdomhiiolojaaW.PrintLast Go.Proofs.YtihdomhiiolojaaW.PrintMore Go.Proofs.Ytihdomhiiolojaa.Pure
set_option linter.unusedVariables false
set_option linter.unusedSimpArgs false
theorem infoEns : (Try.prog.info? 44).map (fun i => (i.zero, i.size, i.bytes)) = some (some (.slice none 0 0), 1, 24) := by kernel_rfl
theorem ents_heap : Kd.Heap (Kd.slice 41 k41) := Kd.heap_slice _ k41_heap
abbrev kR := Kd.slice 41 k41
theorem sum_w64 {i t n : Nat} (hn : n ≤ 20) (ht : t ≤ 1023) (hi : i ≤ n) : wrap64 ((i : Int) + (t : Int)) = ((i + t : Nat) : Int) := by unfold wrap64; omega
theorem len_ne {i n : Nat} (h : i < n) : (n : Int) ≠ 0 := by omega
theorem rem_int (a t b : Nat) : ((a : Int) + (t : Int)) % (b : Int) = (((a + t) % b : Nat) : Int) := rfl
theorem rem_nat (a b : Nat) : Int.tmod ((a : Nat) : Int) (b : Int) = ((a % b : Nat) : Int) := by rw [Int.tmod_eq_emod_of_nonneg (by omega)]; rfl
set_option maxHeartbeats 4000000 in
set_option maxRecDepth 100000 in
theorem MergeOrder_walk (A0 : Option Addr) (c0 : Nat) (l0 : List (List En)) (tn ct : Int) (w : World) (hr0 : Kd.C (Kd.slice 41 k41) w A0 l0.length l0) (hc0 : l0.length ≤ c0) (hb : OkRows l0) (wt : (Lit.int .i64 tn).wf = true) (wc : (Lit.int .i64 ct).wf = true) :
    Calls Try.prog 7 #[.slice A0 l0.length c0, .int .i64 tn, .int .i64 ct] w fun e w' => e = .returned (.bool true) ∧ Below w.heap.size w w' := by
  obtain ⟨b, ⟨k, hg⟩, hsm⟩ := great_f l0
  have HGR := Aside0.mk (rickyardlaw14_Great.calls k A0 c0 l0 b w hr0 hc0 hg)
  have HR := Aside0.mk hr0
  have HC0 := Aside0.mk hc0
  clear hg hr0 hc0 wt wc
  cases b with
  | true =>
    clear hsm
    go_enter Try.func7, Try.ntmps7
    go_wp2_with (first
      | (go_at_call 10; refine (HGR.out).mono ?_; rintro e w1 ⟨rfl, hd⟩; have HB1 := Aside0.mk hd.below; clear hd)
      | (go_at_call 11; refine (rickyardlaw14_alive.calls true _ rfl).mono ?_; rintro e w2 ⟨rfl, hb⟩; have HB2 := Aside0.mk (below_step HB1.out hb); clear hb))
    refine bodyPost_ret (results_tmp rfl _ _ _) rfl ?_
    exact ⟨rfl, HB2.out⟩
  | false =>
    have hs := hsm rfl
    by_cases hc1 : ct < 0
    · have d1 : decide (ct < 0) = true := decide_eq_true hc1
      clear hsm hs
      go_enter Try.func7, Try.ntmps7
      go_wp2_with (first
        | (go_at_call 10; refine (HGR.out).mono ?_; rintro e w1 ⟨rfl, hd⟩; have HB1 := Aside0.mk hd.below; clear hd)
        | (go_at_call 11; refine (rickyardlaw14_alive.calls true _ rfl).mono ?_; rintro e w2 ⟨rfl, hb⟩; have HB2 := Aside0.mk (below_step HB1.out hb); clear hb))
      refine bodyPost_ret (results_tmp rfl _ _ _) rfl ?_
      exact ⟨rfl, HB2.out⟩
    have d1 : decide (ct < 0) = false := decide_eq_false hc1
    by_cases hc2 : (l0.length : Int) < ct
    · have d2 : decide ((l0.length : Int) < ct) = true := decide_eq_true hc2
      clear hsm hs hc1 hc2
      go_enter Try.func7, Try.ntmps7
      go_wp2_with (first
        | (go_at_call 10; refine (HGR.out).mono ?_; rintro e w1 ⟨rfl, hd⟩; have HB1 := Aside0.mk hd.below; clear hd)
        | (go_at_call 11; refine (rickyardlaw14_alive.calls true _ rfl).mono ?_; rintro e w2 ⟨rfl, hb⟩; have HB2 := Aside0.mk (below_step HB1.out hb); clear hb))
      refine bodyPost_ret (results_tmp rfl _ _ _) rfl ?_
      exact ⟨rfl, HB2.out⟩
    have d2 : decide ((l0.length : Int) < ct) = false := decide_eq_false hc2
    rcases all_f hs hb with ⟨er, h0, _, h1⟩ | ⟨h1, h2, h3, h4⟩
    · have e1 : (er == 0) = false := beq_eq_false_iff_ne.2 h0
      have HA := Aside0.mk (fun W (hW : Below w.heap.size w W) => merge_All.calls A0 c0 l0 [] er W (Kd.C_below HR.out hW) HC0.out h1)
      clear hsm hs h1 h0 hb hc1 hc2
      go_enter Try.func7, Try.ntmps7
      go_wp2_with (first
        | (go_at_call 10; refine (HGR.out).mono ?_; rintro e w1 ⟨rfl, hd⟩; have HB1 := Aside0.mk hd.below; clear hd)
        | (go_at_call 16; refine (HA.out _ HB1.out).mono ?_; rintro e w2 ⟨v2, rfl, ho, hb⟩; obtain ⟨A2, c2, rfl⟩ := Kd.S_slice ho; have HB2 := Aside0.mk (below_step HB1.out hb); clear hb ho)
        | (go_at_call 11; refine (rickyardlaw14_alive.calls true _ rfl).mono ?_; rintro e w3 ⟨rfl, hb⟩; have HB3 := Aside0.mk (below_step HB2.out hb); clear hb))
      refine bodyPost_ret (results_tmp rfl _ _ _) rfl ?_
      exact ⟨rfl, HB3.out⟩
    · obtain ⟨n, rfl⟩ : ∃ n : Nat, ct = (n : Int) := ⟨ct.toNat, by omega⟩
      have hn : n ≤ l0.length := by omega
      have d2b : decide (l0.length < n) = false := decide_eq_false (by omega)
      have d1b : decide ((n : Int) < 0) = false := decide_eq_false (by omega)
      clear d1 d2
      obtain ⟨t, ht⟩ : ∃ t : Nat, tn % 1024 = (t : Int) := ⟨(tn % 1024).toNat, by omega⟩
      have ht2 : t ≤ 1023 := by omega
      have hand : Go.bits .and .i64 tn 1023 = (t : Int) := by rw [i64_and1023, ht]
      obtain ⟨o1, o2, o3, o4⟩ := order_all hs hb h1 h2 t n
      have HA := Aside0.mk (fun W (hW : Below w.heap.size w W) => merge_All.calls A0 c0 l0 (allM l0) 0 W (Kd.C_below HR.out hW) HC0.out h3)
      obtain ⟨m, hm⟩ : ∃ m, allM l0 = m := ⟨_, rfl⟩
      obtain ⟨ma, hma⟩ : ∃ m, allM (l0.take n) = m := ⟨_, rfl⟩
      obtain ⟨mb, hmb⟩ : ∃ m, allM (l0.drop n) = m := ⟨_, rfl⟩
      rw [hm] at HA h4 o1 o4
      rw [hma] at o2 o4
      rw [hmb] at o3 o4
      have HO := Aside0.mk (And.intro o1 (And.intro o2 (And.intro o3 o4)))
      have HM := Aside0.mk h4
      have HS := Aside0.mk (show l0.length ≤ 20 ∧ n ≤ l0.length from ⟨hs.1, hn⟩)
      have HT := Aside0.mk ht2
      clear hsm hs h1 h2 h3 hb h4 hm hma hmb o1 o2 o3 o4 hn ht ht2 hc1 hc2
      go_enter Try.func7, Try.ntmps7
      go_upto_region 6 with (first
        | (go_at_call 10; refine (HGR.out).mono ?_; rintro e w1 ⟨rfl, hd⟩; have HB1 := Aside0.mk hd.below; clear hd)
        | (go_at_call 16; refine (HA.out _ HB1.out).mono ?_; rintro e w2 ⟨v2, rfl, ho, hb⟩; obtain ⟨A2, c2, rfl⟩ := Kd.S_slice ho; have HB2 := Aside0.mk (below_step HB1.out hb); have HO2 := Aside0.mk ho; clear hb ho))
      go_wp2
      go_loopg [9, 10] (l0.length) (fun kq v9 v10 w' => ∃ (i : Nat), v10 = .int .i64 (i : Int) ∧ Aside0 (i ≤ l0.length ∧ kq = l0.length - i) ∧ Aside0 (Kd.N kR 44 w' w2.heap.size (fun k => k < w.heap.size ∨ w2.heap.size ≤ k) v9 (turnedL l0 t i)) ∧ Aside0 (Below w2.heap.size w2 w'))
      case atStart => exact ⟨0, rfl, ⟨Nat.zero_le _, rfl⟩, ⟨Kd.N_nil _ _ _ _ _⟩, ⟨Below.refl _ _⟩⟩
      case round =>
        obtain ⟨i, rfl, HI, HN, HB⟩ := hrel
        by_cases hi : i < l0.length
        · have d3 : decide ((i : Int) < (l0.length : Int)) = true := decide_eq_true (by omega)
          have d3b : decide (i < l0.length) = true := decide_eq_true hi
          have HSM := Aside0.mk (show (i + 1) * 24 ≤ 140737488355328 by have := HS.out; omega)
          have HII := Aside0.mk hi
          have hw1 : wrap64 ((i : Int) + 1) = ((i + 1 : Nat) : Int) := w64_up (by have := HS.out; omega)
          have hrm : Int.tmod (wrap64 ((i : Int) + (t : Int))) (l0.length : Int) = (((i + t) % l0.length : Nat) : Int) := by rw [sum_w64 HS.out.1 HT.out (Nat.le_of_lt hi)]; exact rem_nat _ _
          obtain ⟨q, hq⟩ : ∃ q, (i + t) % l0.length = q := ⟨_, rfl⟩
          have hql : q < l0.length := by rw [← hq]; exact Nat.mod_lt _ (by omega)
          rw [hq] at hrm
          obtain ⟨s, hs⟩ : ∃ s, l0[q]? = some s := ⟨_, List.getElem?_eq_getElem hql⟩
          obtain ⟨ad, B, c, hA, hcw, hl0, hCw⟩ := at_row HR.out hs
          subst hA
          have HQ := Aside0.mk (And.intro hq (And.intro hql hs))
          have i1 : (0 ≤ (q : Int)) = True := eq_true (Int.natCast_nonneg _)
          have i2 : ((q : Int) < (l0.length : Int)) = True := eq_true (Int.ofNat_lt.2 hql)
          have i3 : (q < l0.length) = True := eq_true hql
          have i4 : ((l0.length : Int) == 0) = false := beq_eq_false_iff_ne.2 (len_ne hi)
          have i5 : ((l0.length : Int) = 0) = False := eq_false (len_ne hi)
          have i6 : (l0.length = 0) = False := eq_false (fun e => by rw [e] at hi; exact absurd hi (Nat.not_lt_zero _))
          have i7 : (l0 = []) = False := eq_false (fun e => by rw [e] at hi; exact absurd hi (Nat.not_lt_zero _))
          have HCW := Aside0.mk (And.intro hcw (And.intro hl0 hCw))
          have hcr := fun W' (hb : Below w.heap.size w W') => cell_bl' hcw hb
          have hcw1 := hcr wr (HB2.out.trans (HB.out.mono HB2.out.size))
          have HFK := Aside0.mk (Kd.FK_step (Kd.FK_slice_mk (e := 41) (c := c) hl0 (Kd.C_F k41_heap hCw)) (W1 := wr) (fun k hk _ => (HB2.out.trans (HB.out.mono HB2.out.size)).block k hk))
          have HLEN := Aside0.mk (show (turnedL l0 t i).length = i by unfold turnedL; rw [List.length_map, List.length_range])
          clear hi hql hq hs hcw hl0 hCw hcr
          go_wp2_with (first
            | ((with_reducible refine gate_builtin (b := .append) (xs := #[.tmp 46, .tmp 57]) rfl ?_); at_builtin; refine Kd.N_append kR (w0 := w2) (W := wr) w2.heap.size rfl (.tmp 46) (.tmp 57) 22 44 (.slice none 0 0) 24 rfl Try.underlying22 infoEns rfl (by decide) (by omega) _ (turnedL l0 t i) s _ (fun k => k < w.heap.size ∨ w2.heap.size ≤ k) (fun k => k < w.heap.size) rfl rfl ?hp ?hokp ?hf ?HO ?HB ?hbase ?hl ?_; (case hp => exact HFK.out); (case hokp => exact fun k hk => ⟨.inl hk, fun e_ => by have h_ := Kd.N_base HN.out k e_.symm; have := HB2.out.size; omega⟩); (case hf => exact fun k hk => .inr (Nat.le_trans HB.out.size hk)); (case HO => exact HN.out); (case HB => exact HB.out); (case hbase => exact HB.out.size); (case hl => rw [HLEN.out]; exact HSM.out); intro v1 w3 r1 r2 r3 r4; have R1 := Aside0.mk r1; have R2 := Aside0.mk r2; clear r1 r2 r3 r4))
          go_roundg (l0.length - (i + 1))
          case measure => have := HI.out; have := HII.out; omega
          case rel =>
            refine ⟨i + 1, by first | rfl | rw [hw1], ⟨HII.out, rfl⟩, ⟨?_⟩, R2⟩
            have e : l0.getD ((i + t) % l0.length) [] = s := by rw [HQ.out.1, List.getD_eq_getElem?_getD, HQ.out.2.2]; rfl
            rw [turnedL_succ, e]
            exact R1.out
        · have d3 : decide ((i : Int) < (l0.length : Int)) = false := decide_eq_false (by omega)
          have d3b : decide (i < l0.length) = false := decide_eq_false hi
          obtain rfl : i = l0.length := by have := HI.out; omega
          obtain ⟨A9, c9, hv9⟩ := Kd.N_slice HN.out
          have hlen : (turnedL l0 t l0.length).length = l0.length := by unfold turnedL; rw [List.length_map, List.length_range]
          rw [hlen] at hv9
          subst hv9
          have h9 := Kd.N_reads' HN.out
          rw [hlen] at h9
          have HA3 := Aside0.mk (fun W' (hW : Below wr.heap.size wr W') => merge_All.calls A9 c9 (turnedL l0 t l0.length) m 0 W' (by rw [hlen]; exact Kd.C_below h9.2.2 hW) (by rw [hlen]; exact h9.2.1) HO.out.1)
          rw [hlen] at HA3
          obtain ⟨i0, hi0⟩ : ∃ i, Try.prog.info? 44 = some i := ⟨_, rfl⟩
          have hi0s : i0.size = 1 := by
            have : (Try.prog.info? 44).map (·.size) = some 1 := by kernel_rfl
            rw [hi0] at this; exact Option.some.inj this
          have hsl1 := cut_to (P := Try.prog) 22 44 .i64 Try.underlying22 hi0 A0 l0.length c0 (n : Int) (Int.natCast_nonneg _) (Int.ofNat_le.2 HS.out.2) HC0.out
          have hsl2 := cut_from (P := Try.prog) 22 44 .i64 Try.underlying22 hi0 1 hi0s A0 l0.length c0 (n : Int) (Int.natCast_nonneg _) (Int.ofNat_le.2 HS.out.2)
          rw [Int.toNat_natCast] at hsl1 hsl2
          have hCd := Kd.C_drop (m := n) HR.out HS.out.2 HC0.out
          have hCt := Kd.C_take (m := n) HR.out HS.out.2
          rw [List.length_take, Nat.min_eq_left HS.out.2] at hCt
          have hsz : (kR).sz = 1 := rfl
          rw [hsz] at hCd
          obtain ⟨AD, hAD⟩ : ∃ A, (if c0 = n then A0 else A0.map (·.add (n * 1))) = A := ⟨_, rfl⟩
          rw [hAD] at hsl2 hCd
          rw [List.length_drop] at hCd
          have HCD := Aside0.mk hCd
          have HCT := Aside0.mk hCt
          obtain ⟨nD, hnD⟩ : ∃ k, l0.length - n = k := ⟨_, rfl⟩
          obtain ⟨cD, hcD⟩ : ∃ k, c0 - n = k := ⟨_, rfl⟩
          rw [hnD, hcD] at hsl2
          have HAT := Aside0.mk (fun W' (hW : Below w.heap.size w W') => merge_All.calls A0 c0 (l0.take n) ma 0 W' (by rw [List.length_take, Nat.min_eq_left HS.out.2]; exact Kd.C_below HCT.out hW) (by rw [List.length_take, Nat.min_eq_left HS.out.2]; exact Nat.le_trans HS.out.2 HC0.out) HO.out.2.1)
          have HAD := Aside0.mk (fun W' (hW : Below w.heap.size w W') => merge_All.calls AD cD (l0.drop n) mb 0 W' (by rw [List.length_drop]; exact Kd.C_below HCD.out hW) (by rw [List.length_drop, ← hcD]; have := HC0.out; omega) HO.out.2.2.1)
          rw [List.length_take, Nat.min_eq_left HS.out.2] at HAT
          rw [List.length_drop, hnD] at HAD
          have HBW := Aside0.mk (HB2.out.trans (HB.out.mono HB2.out.size))
          clear hi0 hi0s hCd hCt hAD hnD hcD h9 hlen hi HI
          go_upto_region 14 with (first
            | (go_at_call 16; refine (HA3.out wr (Below.refl _ _)).mono ?_; rintro e w3 ⟨v3, rfl, ho, hb⟩; obtain ⟨A3, c3, rfl⟩ := Kd.S_slice ho; have HB3 := Aside0.mk (below_step HBW.out hb); have HW3 := Aside0.mk hb; have HO3 := Aside0.mk ho; clear hb ho HA3)
            | (go_at_call 16; refine (HAT.out _ HB3.out).mono ?_; rintro e w4 ⟨v4, rfl, ho, hb⟩; obtain ⟨A4, c4, rfl⟩ := Kd.S_slice ho; have HB4 := Aside0.mk (below_step HB3.out hb); have HW4 := Aside0.mk hb; have HO4 := Aside0.mk ho; clear hb ho HAT)
            | (go_at_call 16; refine (HAD.out _ HB4.out).mono ?_; rintro e w5 ⟨v5, rfl, ho, hb⟩; obtain ⟨A5, c5, rfl⟩ := Kd.S_slice ho; have HB5 := Aside0.mk (below_step HB4.out hb); have HW5 := Aside0.mk hb; have HO5 := Aside0.mk ho; clear hb ho HAD))
          have HAB := Aside0.mk (show ∀ V, V = w5.alloc (.cells #[.slice A4 ma.length c4, .slice A5 mb.length c5] 44) → Calls Try.prog 16 #[.slice (some ⟨w5.heap.size, 0, none⟩) 2 2] V fun e w' => ∃ v0_, e = .returned (.tuple #[v0_, .int .i64 0]) ∧ Kd.S k41 41 w' V.heap.size (fun _ => True) v0_ m ∧ Below w5.heap.size w5 w' from by
            rintro V rfl
            have hc := C_rows2 (W := w5) (Kd.C_below (Kd.S_reads' HO4.out).2.2 HW5.out) (Kd.S_reads' HO5.out).2.2 (Kd.S_reads' HO4.out).2.1 (Kd.S_reads' HO5.out).2.1
            refine (merge_All.calls _ 2 [ma, mb] m 0 _ hc (Nat.le_refl 2) HO.out.2.2.2).mono ?_
            rintro e w' ⟨v, rfl, ho, hb⟩
            exact ⟨v, rfl, ho, (below_alloc (Below.refl _ _) _).trans (hb.mono (by simp))⟩)
          go_wp2_with (first
            | (go_at_call 16; refine (HAB.out _ rfl).mono ?_; rintro e w6 ⟨v6, rfl, ho, hb⟩; obtain ⟨A6, c6, rfl⟩ := Kd.S_slice ho; have HB6 := Aside0.mk (below_step HB5.out hb); have HW6 := Aside0.mk (below_step HW5.out hb); have HO6 := Aside0.mk ho; clear hb ho)
            | (go_at_call 11; refine (rickyardlaw14_alive.calls true _ rfl).mono ?_; rintro e w7 ⟨rfl, hb⟩; have HB7 := Aside0.mk (below_step HB6.out hb); have HW7 := Aside0.mk hb; have HX7 := Aside0.mk (Kd.C_below (Kd.S_reads' HO3.out).2.2 (below_step HW4.out (below_step HW6.out hb))); have HY7 := Aside0.mk (Kd.C_below (Kd.S_reads' HO6.out).2.2 hb); have HZ7 := Aside0.mk (Kd.C_below (Kd.S_reads' HO2.out).2.2 (below_step HB.out (below_step HW3.out (below_step HW4.out (below_step HW6.out hb))))); clear hb)
            | (go_at_call 18; refine (rickyardref08_Same.calls 1300 A2 c2 m A6 c6 m true w8 (Kd.C_below HZ7.out HW8.out) (Kd.S_reads' HO2.out).2.1 (Kd.C_below HY7.out HW8.out) (Kd.S_reads' HO6.out).2.1 (same_f m (by have := HM.out; omega) 1300 (by have := HM.out; omega))).mono ?_; rintro e w9 ⟨rfl, hd⟩; have HB9 := Aside0.mk (below_step HB8.out hd.below); clear hd)
            | (go_at_call 18; refine (rickyardref08_Same.calls 1300 A2 c2 m A3 c3 m true w7 HZ7.out (Kd.S_reads' HO2.out).2.1 HX7.out (Kd.S_reads' HO3.out).2.1 (same_f m (by have := HM.out; omega) 1300 (by have := HM.out; omega))).mono ?_; rintro e w8 ⟨rfl, hd⟩; have HB8 := Aside0.mk (below_step HB7.out hd.below); have HW8 := Aside0.mk hd.below; clear hd))
          refine bodyPost_ret (results_tmp rfl _ _ _) rfl ?_
          exact ⟨rfl, HB9.out⟩
end Go.Proofs.Ytihdomhiiolojaa.P
