/- The document's All. No conditions. -/
import Derived.Test.YtihdomhiiolojaaMgRefPut
import Derived.Test.YtihdomhiiolojaaMgRefRows
namespace Go.Proofs.Ytihdomhiiolojaa.P
open Go.RowKit Go.Proofs.YtihdomhiiolojaaW.PrintWords Go.Proofs.YtihdomhiiolojaaW.PrintLast Go.Proofs.YtihdomhiiolojaaW.PrintMore
set_option linter.unusedVariables false
set_option linter.unusedSimpArgs false
open Go.Proofs.Ytihdomhiiolojaa.Pure
theorem foldP_len : ∀ (L out : List En), (L.foldl putL out).length ≤ out.length + L.length
  | [], out => by simp
  | x :: L, out => by
    have h1 := foldP_len L (putL out x)
    have h2 := putL_len out x
    rw [List.foldl_cons, List.length_cons]; omega
theorem foldP_good : ∀ (L out : List En), (∀ y ∈ out, GoodA y.f1) → (∀ y ∈ L, GoodA y.f1) → ∀ y ∈ L.foldl putL out, GoodA y.f1
  | [], out, h, _ => h
  | x :: L, out, h, g => by
    rw [List.foldl_cons]
    exact foldP_good L _ (putL_good h (g x (List.mem_cons_self ..))) (fun y hy => g y (List.mem_cons_of_mem _ hy))
/-- What lies there at row i, entry k. -/
def preL (l0 : List (List En)) (i : Nat) (r : List En) (k : Nat) : List En := (l0.take i).flatten ++ r.take k
theorem preL_mem {l0 : List (List En)} {i k : Nat} {r : List En} (hr : l0[i]? = some r) {y : En} (hy : y ∈ preL l0 i r k) : y ∈ l0.flatten := by
  unfold preL at hy
  rcases List.mem_append.1 hy with h | h
  · obtain ⟨q, hq, hy⟩ := List.mem_flatten.1 h
    exact List.mem_flatten.2 ⟨q, List.mem_of_mem_take hq, hy⟩
  · exact List.mem_flatten.2 ⟨r, List.mem_of_getElem? hr, List.mem_of_mem_take h⟩
theorem preL_next {l0 : List (List En)} {i : Nat} {r : List En} (hr : l0[i]? = some r) {k : Nat} {x : En} (hx : r[k]? = some x) : (preL l0 i r (k + 1)).foldl putL [] = putL ((preL l0 i r k).foldl putL []) x := by
  unfold preL
  rw [List.take_add_one, hx]
  simp [List.foldl_append]
theorem preL_row {l0 : List (List En)} {i : Nat} {r : List En} (hr : l0[i]? = some r) {k : Nat} (hk : r.length ≤ k) : preL l0 i r k = preL l0 (i + 1) [] 0 := by
  unfold preL
  rw [List.take_of_length_le hk, List.take_add_one, hr]
  simp
theorem preL_zero {l0 : List (List En)} {i : Nat} (r : List En) : preL l0 i r 0 = preL l0 i [] 0 := by
  unfold preL
  rw [List.take_zero, List.take_zero]
theorem preL_end {l0 : List (List En)} {i : Nat} (h : l0.length ≤ i) : preL l0 i [] 0 = l0.flatten := by
  unfold preL
  rw [List.take_of_length_le h]; simp
theorem flat_len {l0 : List (List En)} : ∀ {i : Nat} {r : List En} (hr : l0[i]? = some r) (k : Nat), (preL l0 i r k).length ≤ l0.flatten.length := by
  induction l0 with
  | nil => intro i r hr; simp at hr
  | cons q l0 ih =>
    intro i r hr k
    cases i with
    | zero =>
      obtain rfl := Option.some.inj hr
      unfold preL
      simp; omega
    | succ i =>
      have := ih (i := i) (r := r) hr k
      unfold preL at this ⊢
      simp at this ⊢; omega
set_option maxHeartbeats 4000000 in
set_option maxRecDepth 100000 in
theorem refAll_calls (w W : World) (A0 : Option Addr) (c0 : Nat) (l0 : List (List En)) (hr0 : Kd.C (Kd.slice 41 k41) w A0 l0.length l0) (hc0 : l0.length ≤ c0) (hB : Below w.heap.size w W) (hS : Small l0) (hG : RightR l0) (h0 : newE l0 = 0) (hn : l0.flatten.length ≤ 4000) :
    Calls Try.prog 17 #[.slice A0 l0.length c0] W fun e w' => ∃ v, e = .returned (.tuple #[v, .int .i64 0]) ∧ Kd.N k41 41 w' W.heap.size (fun k => k < w.heap.size ∨ W.heap.size ≤ k) v (refL l0.flatten) ∧ Below W.heap.size W w' := by
  have hu3 := Try.underlying41
  have hu4 := Try.underlying39
  have hrf := rows_f l0 hS
  rw [h0] at hrf
  have HRW := Aside0.mk (rickyardref14_Rows.calls 400 A0 c0 l0 0 W (Kd.C_below hr0 hB) hc0 hrf)
  have HR := Aside0.mk hr0
  have HB := Aside0.mk hB
  have HSM := Aside0.mk hS
  have HG := Aside0.mk hG
  have HN := Aside0.mk hn
  have HGF := Aside0.mk (show ∀ y ∈ l0.flatten, GoodA y.f1 from fun y hy => by
    obtain ⟨q, hq, hy⟩ := List.mem_flatten.1 hy
    exact hG q hq y hy)
  clear hr0 hc0 hB hS hG h0 hn hrf
  go_enter Try.func17, Try.ntmps17
  go_upto_region 5 with (first
    | (go_at_call 13; refine (HRW.out).mono ?_; rintro e w1 ⟨rfl, hb⟩; have HB1 := Aside0.mk hb; clear hb))
  go_wp2
  go_loopg [5, 6] (l0.length) (fun kq v5 v6 w' => ∃ (i : Nat), v6 = .int .i64 (i : Int) ∧ Aside0 (i ≤ l0.length ∧ kq = l0.length - i) ∧ Aside0 (Kd.N k41 41 w' W.heap.size (fun k => k < w.heap.size ∨ W.heap.size ≤ k) v5 ((preL l0 i [] 0).foldl putL [])) ∧ Aside0 (Below W.heap.size W w'))
  case atStart => exact ⟨0, rfl, ⟨Nat.zero_le _, rfl⟩, ⟨by unfold preL; simp; exact Kd.N_nil _ _ _ _ _⟩, HB1⟩
  case round =>
    obtain ⟨i, rfl, HI, HO, HBW⟩ := hrel
    by_cases hi : i < l0.length
    · have d3 : decide ((i : Int) < (l0.length : Int)) = true := decide_eq_true (by omega)
      have d3b : decide (i < l0.length) = true := decide_eq_true hi
      have HII := Aside0.mk hi
      obtain ⟨r, hr⟩ : ∃ r, l0[i]? = some r := ⟨_, List.getElem?_eq_getElem hi⟩
      have HRR := Aside0.mk hr
      obtain ⟨ad, Br, cr, hA, hcw, hlr, hCr⟩ := at_row HR.out hr
      subst hA
      have HCW := Aside0.mk hcw
      have HCR := Aside0.mk hCr
      clear hr hi hcw hlr hCr
      go_wp2
      go_loopg [5, 7] (r.length) (fun kq v5 v7 w' => ∃ (k : Nat), v7 = .int .i64 (k : Int) ∧ Aside0 (k ≤ r.length ∧ kq = r.length - k) ∧ Aside0 (Kd.N k41 41 w' W.heap.size (fun k => k < w.heap.size ∨ W.heap.size ≤ k) v5 ((preL l0 i r k).foldl putL [])) ∧ Aside0 (Below W.heap.size W w'))
      case atStart => exact ⟨0, rfl, ⟨Nat.zero_le _, rfl⟩, ⟨by rw [preL_zero]; exact HO.out⟩, HBW⟩
      case round =>
        obtain ⟨k, rfl, HK, HP, HBX⟩ := hrel
        have i1 : (0 ≤ (i : Int)) = True := eq_true (Int.natCast_nonneg _)
        have i2 : ((i : Int) < (l0.length : Int)) = True := eq_true (Int.ofNat_lt.2 HII.out)
        have i3 : (i < l0.length) = True := eq_true HII.out
        have HWX := Aside0.mk (HB.out.trans (HBX.out.mono HB.out.size))
        have hcV := cell_bl' HCW.out HWX.out
        by_cases hk : k < r.length
        · have d4 : decide ((k : Int) < (r.length : Int)) = true := decide_eq_true (by omega)
          have d4b : decide (k < r.length) = true := decide_eq_true hk
          have j1 : (0 ≤ (k : Int)) = True := eq_true (Int.natCast_nonneg _)
          have j2 : ((k : Int) < (r.length : Int)) = True := eq_true (Int.ofNat_lt.2 hk)
          have j3 : (k < r.length) = True := eq_true hk
          have HKK := Aside0.mk hk
          obtain ⟨x, hx⟩ : ∃ x, r[k]? = some x := ⟨_, List.getElem?_eq_getElem hk⟩
          have hrl : r.length ≤ 60 := (HSM.out.2 r (List.mem_of_getElem? HRR.out)).1
          have hw1 : wrap64 ((k : Int) + 1) = ((k + 1 : Nat) : Int) := w64_up (by omega)
          obtain ⟨ae, Bx, dx, hE, k0, k1, k2, k3, k4, k5, k6, hlx, hCx⟩ := at_en (Kd.C_below HCR.out HWX.out) hx
          subst hE
          obtain ⟨_, Bx', dx', hE', q0, _, _, _, _, _, _, _, hCq⟩ := at_en HCR.out hx
          obtain ⟨L, hL⟩ : ∃ L, (preL l0 i r k).foldl putL [] = L := ⟨_, rfl⟩
          have hLn : L.length ≤ 5000 := by
            rw [← hL]
            have h1 := foldP_len (preL l0 i r k) []
            have h2 := flat_len HRR.out k
            have h3 := HN.out
            rw [List.length_nil] at h1; omega
          have hLg : ∀ y ∈ L, GoodA y.f1 := by
            rw [← hL]
            exact foldP_good _ _ (fun y hy => by cases hy) (fun y hy => HGF.out y (preL_mem HRR.out hy))
          have hxg : GoodA x.f1 := HGF.out x (List.mem_flatten.2 ⟨r, List.mem_of_getElem? HRR.out, List.mem_of_getElem? hx⟩)
          have hnx := preL_next HRR.out hx
          rw [hL] at hnx HP
          obtain ⟨A1, c1, rfl⟩ := Kd.N_slice HP.out
          injection hE' with hE'
          subst hE'
          have hq := cell_bl' q0 HWX.out
          rw [k0] at hq
          injection hq with hq
          injection hq with hq1 _ hq2
          subst hq1 hq2
          have HPUT := Aside0.mk (fun X (hX : Below wr.heap.size wr X) => Put_calls X (fun k => k < w.heap.size ∨ W.heap.size ≤ k) A1 c1 L Bx dx x (Kd.F_below (Kd.N_F HP.out) hX) (Kd.N_reads' HP.out).2.1 (Kd.F_mono (Kd.F_below (Kd.F_below (Kd.C_F (Kd.heap_int .u8) hCq) HWX.out) hX) (fun _ h => Or.inl h)) hlx hLg hxg hLn (fun k hk => Or.inr (Nat.le_trans HBX.out.size (Nat.le_trans hX.size hk))))
          have HNX := Aside0.mk hnx
          clear hL hLn hLg hxg hnx hk hx hlx hCx hCq q0 hrl HCW
          go_wp2_with (first
            | (go_at_call 25; refine (HPUT.out _ (by first | exact Below.refl _ _ | exact pw_below_drewN (Below.refl _ _) _)).mono ?_; rintro e w3 ⟨v3, rfl, ho, hb⟩; obtain ⟨A3, c3, rfl⟩ := Kd.N_slice ho; have HO3 := Aside0.mk ho; have HB3 := Aside0.mk hb; clear ho hb))
          go_roundg (r.length - (k + 1))
          case measure => have := HK.out; have := HKK.out; omega
          case rel => exact ⟨k + 1, by first | rfl | rw [hw1], ⟨HKK.out, rfl⟩, ⟨by rw [HNX.out]; exact Kd.N_lower HO3.out HBX.out.size⟩, ⟨HBX.out.trans (HB3.out.mono HBX.out.size)⟩⟩
        · have d4 : decide ((k : Int) < (r.length : Int)) = false := decide_eq_false (by omega)
          have d4b : decide (k < r.length) = false := decide_eq_false hk
          have hr2 := preL_row HRR.out (k := k) (by omega)
          rw [hr2] at HP
          have hil : l0.length ≤ 20 := HSM.out.1
          have hw2 : wrap64 ((i : Int) + 1) = ((i + 1 : Nat) : Int) := w64_up (by have := HII.out; omega)
          clear hk hr2 hil
          go_wp2
          go_roundg (l0.length - (i + 1))
          case measure => have := HI.out; have := HII.out; omega
          case rel => exact ⟨i + 1, by first | rfl | rw [hw2], ⟨HII.out, rfl⟩, HP, HBX⟩
    · have d3 : decide ((i : Int) < (l0.length : Int)) = false := decide_eq_false (by omega)
      have d3b : decide (i < l0.length) = false := decide_eq_false hi
      have he := preL_end (l0 := l0) (i := i) (by omega)
      rw [he] at HO
      clear hi he
      go_wp2
      refine bodyPost_ret (results_tmp2 rfl _ _ _) rfl ?_
      exact ⟨_, rfl, HO.out, HBW.out⟩
set_option maxHeartbeats 4000000 in
theorem refAll_err (W : World) (A0 : Option Addr) (c0 : Nat) (l0 : List (List En)) (hr0 : Kd.C (Kd.slice 41 k41) W A0 l0.length l0) (hc0 : l0.length ≤ c0) (hS : Small l0) (er : Int) (he : newE l0 = er) (h0 : er ≠ 0) :
    Calls Try.prog 17 #[.slice A0 l0.length c0] W fun e w' => e = .returned (.tuple #[.slice none 0 0, .int .i64 er]) ∧ Below W.heap.size W w' := by
  have hrf := rows_f l0 hS
  rw [he] at hrf
  have HRW := Aside0.mk (rickyardref14_Rows.calls 400 A0 c0 l0 er W hr0 hc0 hrf)
  have e1 : (er == 0) = false := beq_eq_false_iff_ne.2 h0
  clear hr0 hc0 hS he hrf h0
  go_enter Try.func17, Try.ntmps17
  go_wp2_with (first
    | (go_at_call 13; refine (HRW.out).mono ?_; rintro e w1 ⟨rfl, hb⟩; have HB1 := Aside0.mk hb; clear hb))
  refine bodyPost_ret (results_tmp2 rfl _ _ _) rfl ?_
  exact ⟨rfl, HB1.out⟩
end Go.Proofs.Ytihdomhiiolojaa.P
