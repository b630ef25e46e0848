/- wide.Print: the digits. -/
import Derived.Test.YtjmobjjajnnodaaEAdd
import Derived.Test.YtjmobjjajnnodaaEDiv
namespace Go.Proofs.Ytjmobjjajnnodaa.P
open Go.RowKit Go.Proofs.YtjmobjjajnnodaaW.PrintWords Go.Proofs.YtjmobjjajnnodaaW.PrintLast Go.Proofs.YtjmobjjajnnodaaW.PrintMore
set_option linter.unusedVariables false
set_option linter.unusedSimpArgs false

def prHi (a0 a1 : Int) : Int := if a0 < 0 then IntKind.u64.wrap (negHi a0 a1) else IntKind.u64.wrap a0
def prLo (a0 a1 : Int) : Int := if a0 < 0 then negLo a1 else a1

/-- The number that is printed. -/
def prN (a0 a1 : Int) : Nat := (prHi a0 a1 * 18446744073709551616 + prLo a0 a1).toNat
def dec (n : Nat) : List Int := if h : n < 10 then [48 + (n : Int)] else dec (n / 10) ++ [48 + ((n % 10 : Nat) : Int)]
termination_by n
decreasing_by omega
theorem dec_lt {n : Nat} (h : n < 10) : dec n = [48 + (n : Int)] := by rw [dec, dif_pos h]
theorem dec_ge {n : Nat} (h : ¬ n < 10) : dec n = dec (n / 10) ++ [48 + ((n % 10 : Nat) : Int)] := by rw [dec, dif_neg h]
def cellsOf (m : Nat) (ds : List Int) : List Value := List.replicate m (.int .u8 0) ++ ds.map (fun x => .int .u8 x)
theorem cellsOf_set (m : Nat) (c : Int) (ds : List Int) : (cellsOf (m + 1) ds).toArray.setIfInBounds m (.int .u8 c) = (cellsOf m (c :: ds)).toArray := by
  simp [cellsOf, List.replicate_succ', List.set_append]

structure PrInv (N V m : Nat) (hi lo at_ : Int) (ds : List Int) : Prop where
  e1 : hi * 18446744073709551616 + lo = V
  h0 : 0 ≤ hi
  l0 : 0 ≤ lo
  l1 : lo < 18446744073709551616
  h1 : hi < 18446744073709551616
  at1 : at_ = m
  len : m + ds.length = 40
  two : 2 ≤ m
  lim : V < 10 ^ (m - 1)
  eq : dec N = dec V ++ ds

theorem prHi_nn (a0 a1 : Int) : 0 ≤ prHi a0 a1 := by unfold prHi; split <;> exact wrap_u64_nn _
theorem prHi_lt (a0 a1 : Int) : prHi a0 a1 < 18446744073709551616 := by unfold prHi; split <;> (rw [IntKind.wrap_u64]; omega)
theorem prLo_nn (a0 a1 : Int) (h : 0 ≤ a1) : 0 ≤ prLo a0 a1 := by
  unfold prLo; split
  · exact sumLo_nn _ _
  · exact h
theorem prLo_lt (a0 a1 : Int) (h : a1 < 18446744073709551616) : prLo a0 a1 < 18446744073709551616 := by
  unfold prLo; split
  · exact sumLo_lt _ _
  · exact h
theorem prHi_pos {a0 a1 : Int} (h : 0 ≤ a0) : prHi a0 a1 = IntKind.u64.wrap a0 := by rw [prHi, if_neg (by omega)]
theorem prLo_pos {a0 a1 : Int} (h : 0 ≤ a0) : prLo a0 a1 = a1 := by rw [prLo, if_neg (by omega)]
theorem cellsOf_at' (m : Nat) {n : Nat} (ds : List Int) (h : m < n + 1) : (cellsOf (n + 1) ds).toArray[m]? = some (.int .u8 0) := by
  unfold cellsOf
  rw [List.getElem?_toArray, List.getElem?_append_left (by simpa using h), List.getElem?_replicate_of_lt h]
theorem cellsOf_at (m : Nat) (ds : List Int) : (cellsOf (m + 1) ds).toArray[m]? = some (.int .u8 0) := by
  simp [cellsOf, List.replicate_succ']
theorem prInv_start (a0 a1 : Int) (h : 0 ≤ a1 ∧ a1 < 18446744073709551616) : PrInv (prN a0 a1) (prN a0 a1) 40 (prHi a0 a1) (prLo a0 a1) 40 [] := by
  have h1 := prHi_nn a0 a1
  have h2 := prHi_lt a0 a1
  have h3 := prLo_nn a0 a1 h.1
  have h4 := prLo_lt a0 a1 h.2
  refine ⟨?_, h1, h3, h4, h2, rfl, rfl, by decide, ?_, by simp⟩
  · unfold prN; omega
  · unfold prN
    rw [show (10 : Nat) ^ (40 - 1) = 1000000000000000000000000000000000000000 from rfl]
    omega

theorem prInv_next {N V m : Nat} {hi lo at_ : Int} {ds : List Int} (h : PrInv N V m hi lo at_ ds) (hV : V / 10 ≠ 0) (hi' lo' : Int) (e : hi' * 18446744073709551616 + lo' = ((V / 10 : Nat) : Int)) (a : 0 ≤ hi') (b : 0 ≤ lo') (c : lo' < 18446744073709551616) :
    PrInv N (V / 10) (m - 1) hi' lo' (((m - 1 : Nat)) : Int) ((48 + ((V % 10 : Nat) : Int)) :: ds) := by
  have h2 := h.two
  have hl := h.lim
  have e1 := h.e1
  have := h.h1
  have := h.l1
  obtain ⟨j, rfl⟩ : ∃ j, m = j + 2 := ⟨m - 2, by omega⟩
  rw [show j + 2 - 1 = j + 1 from by omega, Nat.pow_succ] at hl
  have hj : 1 ≤ j := by
    cases j with
    | zero => simp at hl; omega
    | succ j => omega
  refine ⟨e, a, b, c, by omega, rfl, ?_, by omega, ?_, ?_⟩
  · have := h.len; simp only [List.length_cons]; omega
  · rw [show j + 2 - 1 - 1 = j from by omega]; omega
  · rw [h.eq, dec_ge (n := V) (by omega), List.append_assoc]; rfl

def prOut (a0 a1 : Int) : List Int := if a0 < 0 then 45 :: dec (prN a0 a1) else dec (prN a0 a1)
theorem prOut_pos {a0 a1 : Int} (h : 0 ≤ a0) {V m : Nat} {hi lo at_ : Int} {ds : List Int} (hI : PrInv (prN a0 a1) V m hi lo at_ ds) (hV : V / 10 = 0) : prOut a0 a1 = (48 + ((V % 10 : Nat) : Int)) :: ds := by
  rw [prOut, if_neg (by omega), hI.eq, dec_lt (by omega), show V % 10 = V from by omega]; rfl
theorem prOut_neg {a0 a1 : Int} (h : a0 < 0) {V m : Nat} {hi lo at_ : Int} {ds : List Int} (hI : PrInv (prN a0 a1) V m hi lo at_ ds) (hV : V / 10 = 0) : prOut a0 a1 = 45 :: (48 + ((V % 10 : Nat) : Int)) :: ds := by
  rw [prOut, if_pos h, hI.eq, dec_lt (by omega), show V % 10 = V from by omega]; rfl
theorem prOut_len_pos {a0 a1 : Int} (h : 0 ≤ a0) {V n : Nat} {hi lo at_ : Int} {ds : List Int} (hI : PrInv (prN a0 a1) V (n + 1) hi lo at_ ds) (hV : V / 10 = 0) : n + (prOut a0 a1).length = 40 := by
  rw [prOut_pos h hI hV]; have := hI.len; simp only [List.length_cons]; omega
theorem prOut_len_neg {a0 a1 : Int} (h : a0 < 0) {V n : Nat} {hi lo at_ : Int} {ds : List Int} (hI : PrInv (prN a0 a1) V (n + 1 + 1) hi lo at_ ds) (hV : V / 10 = 0) : n + (prOut a0 a1).length = 40 := by
  rw [prOut_neg h hI hV]; have := hI.len; simp only [List.length_cons]; omega

theorem dec_ne (n : Nat) : 0 < (dec n).length := by
  by_cases h : n < 10
  · rw [dec_lt h]; simp
  · rw [dec_ge h]; simp
theorem prOut_ne (a0 a1 : Int) : 0 < (prOut a0 a1).length := by
  unfold prOut; split
  · simp
  · exact dec_ne _

/-- The end of a block's bytes, as a row. -/
theorem C_cells {w : World} {g m t : Nat} {L : List Int} (h : w.heap[g]? = some (.cells (cellsOf m L).toArray t (0, 0))) (hl : m + L.length = 40) :
    Kd.C (Kd.int .u8) w (some ⟨g, m, none⟩) L.length L := by
  refine ⟨rfl, by omega, fun _ => ⟨_, rfl, fun j p hj => ⟨[.int .u8 p], rfl, rfl, fun i u hu => ?_⟩⟩⟩
  have hi : i = 0 ∧ u = .int .u8 p := by
    cases i with
    | zero => simp at hu; exact ⟨rfl, hu.symm⟩
    | succ i => simp at hu
  obtain ⟨rfl, rfl⟩ := hi
  have e1 : (⟨g, m, none⟩ : Addr).add (j * (Kd.int .u8).sz + 0) = ⟨g, m + j, none⟩ := by
    show (⟨g, m, none⟩ : Addr).add (j * 1 + 0) = _
    simp [Addr.add, eq_comm]
  rw [e1, blk_cell h, List.getElem?_toArray, cellsOf, List.getElem?_append_right (by simp)]
  simp [hj]

/-- What one round reckons. -/
theorem prInv_round {N V m : Nat} {hi lo at_ : Int} {ds : List Int} (h : PrInv N V m hi lo at_ ds) : ∃ hi' rr lo' rm c at' : Int,
    hi.tdiv 10 = hi' ∧ hi.tmod 10 = rr ∧ IntKind.u64.wrap hi' = hi' ∧ IntKind.u64.wrap rr = rr ∧ (rr * 18446744073709551616 + lo) / 10 = lo' ∧ (rr * 18446744073709551616 + lo) % 10 = rm ∧ IntKind.u64.wrap (48 + rm) = c ∧ IntKind.u8.wrap c = c ∧ c % 256 = c ∧
    wrap64 (at_ - 1) = at' ∧ (0 ≤ at') = True ∧ (at' < 40) = True ∧ at'.toNat = m - 1 ∧ Aside0 (c = 48 + ((V % 10 : Nat) : Int) ∧ at' = ((m - 1 : Nat) : Int) ∧ hi' * 18446744073709551616 + lo' = ((V / 10 : Nat) : Int) ∧ 0 ≤ hi' ∧ 0 ≤ lo' ∧ lo' < 18446744073709551616 ∧ 0 ≤ rr ∧ rr < 10 ∧ 0 ≤ lo ∧ lo < 18446744073709551616) := by
  have e1 := h.e1
  have h0 := h.h0
  have l0 := h.l0
  have l1 := h.l1
  have h1 := h.h1
  have a1 := h.at1
  have two := h.two
  have len := h.len
  refine ⟨hi / 10, hi % 10, _, _, 48 + ((V % 10 : Nat) : Int), ((m - 1 : Nat) : Int), tdiv_nn _ _ h0, Int.tmod_eq_emod_of_nonneg h0, wrap_u64_id _ (by omega) (by omega), wrap_u64_id _ (by omega) (by omega), rfl, rfl, ?_, ?_, by omega, ?_, eq_true (by omega), eq_true (by omega), by omega, ⟨rfl, rfl, by omega, by omega, by omega, by omega, by omega, by omega, l0, l1⟩⟩
  · rw [wrap_u64_id _ (by omega) (by omega)]; omega
  · rw [IntKind.wrap_u8]; omega
  · unfold wrap64; omega

set_option maxHeartbeats 1000000 in
set_option maxRecDepth 100000 in
theorem wide_Print_calls (a0_0 a0_1 : Int) (w : World) (hl : 0 ≤ a0_1 ∧ a0_1 < 18446744073709551616) :
    Calls Try.prog 17 #[.agg #[.int .i64 a0_0, .int .u64 a0_1]] w fun e w' => e = .returned (.string (strOfNums (prOut a0_0 a0_1))) ∧ Below w.heap.size w w' := by
  have hu := Try.underlying24
  have HB0 := Aside0.mk (Below.refl w.heap.size w)
  have G := Aside0.mk hl
  clear hl
  go_enter Try.func17, Try.ntmps17
  go_upto_region 1 with (fail)
  go_region
  go_upto_if 16 with (fail)
  go_cut [3, 4] (fun v3 v4 wc => v3 = .int .u64 (prHi a0_0 a0_1) ∧ v4 = .int .u64 (prLo a0_0 a0_1) ∧ Aside0 (wc.heap[w.heap.size]? = some (.cells #[.int .i64 a0_0, .int .u64 a0_1] 24 (0, 0))) ∧ Aside0 (Below w.heap.size w wc))
  case first =>
    rcases Int.lt_or_le a0_0 0 with hn | hn
    · have hb : decide (a0_0 < 0) = true := decide_eq_true hn
      rw [hb]
      go_upto_region 4 with (first | ((with_reducible refine gate_callee (f := 23) rfl ?_); refine goesL_ (some 18) rfl rfl Try.func23 (by kernel_rfl) rfl #[.agg #[.int .i64 a0_0, .int .u64 a0_1]] rfl (by (try simp only [List.map_toArray, List.map_cons, List.map_nil]); first | done | rfl | (simp only [List.length_drop, List.length_take]; rfl)) ?_; refine (wide_Minus.calls a0_0 a0_1 _ _ _ rfl).mono ?_; rintro e w2 ⟨rfl, hb2⟩; refine ⟨_, rfl, ?_⟩; have HB2 := Aside0.mk (below_step (by repeat (first | exact HB0.out | apply below_alloc | apply pw_below_drewN | apply below_drew1)) hb2); have BK2 := Aside0.mk (blk_below (g := w.heap.size) (o := .cells #[.int .i64 a0_0, .int .u64 a0_1] 24 (0, 0)) (by (with_reducible repeat (first | refine blk_drewN ?_ _ | refine blk_drew ?_)); exact blk_new _ _) hb2); clear hb2))
      go_region
      go_wp2
      go_meet
      case rel => exact ⟨by rw [prHi, if_pos hn], by rw [prLo, if_pos hn], ⟨by (with_reducible repeat (first | refine blk_drewN ?_ _ | refine blk_drew ?_)); exact blk_alloc BK2.out _⟩, ⟨by repeat (first | exact HB2.out | apply below_alloc | apply pw_below_drewN | apply below_drew1)⟩⟩
    · have hb : decide (a0_0 < 0) = false := decide_eq_false (Int.not_lt.2 hn)
      rw [hb]
      go_wp2
      go_meet
      case rel => exact ⟨by rw [prHi_pos hn], by rw [prLo_pos hn], ⟨by (with_reducible repeat (first | refine blk_drewN ?_ _ | refine blk_drew ?_)); exact blk_new _ _⟩, ⟨by repeat (first | exact HB0.out | apply below_alloc | apply pw_below_drewN | apply below_drew1)⟩⟩
  case rest =>
    obtain ⟨rfl, rfl, BK, HB⟩ := hcut
    go_wp2
    go_loopg [3, 4, 7] 40 (fun kq v3 v4 v7 w' => ∃ (V m : Nat) (hi lo at_ : Int) (ds : List Int), v3 = .int .u64 hi ∧ v4 = .int .u64 lo ∧ v7 = .int .i64 at_ ∧ Aside0 (PrInv (prN a0_0 a0_1) V m hi lo at_ ds ∧ kq = m) ∧ Aside0 (w'.heap[wc.heap.size]? = some (.cells (cellsOf m ds).toArray 53 (0, 0))) ∧ Aside0 (w'.heap[w.heap.size]? = some (.cells #[.int .i64 a0_0, .int .u64 a0_1] 24 (0, 0))) ∧ Aside0 (Below w.heap.size w w'))
    case atStart => exact ⟨_, 40, _, _, 40, [], rfl, rfl, rfl, ⟨prInv_start a0_0 a0_1 G.out, rfl⟩, ⟨blk_new _ _⟩, ⟨blk_alloc BK.out _⟩, ⟨below_alloc HB.out _⟩⟩
    case round =>
      obtain ⟨V, m, hi, lo, at_, ds, rfl, rfl, rfl, HI, BD, BK2, HB2⟩ := hrel
      obtain ⟨n, rfl⟩ : ∃ n, m = n + 1 := ⟨m - 1, by have := HI.out.1.two; omega⟩
      obtain ⟨hi', rr, lo', rm, c, at', d1, d2, d3, d4, d5, d6, d7, d8, d9, d10, d11, d12, d13, ⟨x1, x2, x3, x4, x5, x6, x7, x8, x9, x10⟩⟩ := prInv_round HI.out.1
      have hdiv := fun w => div_ten rr lo x7 x8 x9 x10 w
      simp only [d5, d6] at hdiv
      rw [Nat.add_sub_cancel] at d13 x2
      have hcz : wr.cell? ⟨wc.heap.size, n, none⟩ = some (.int .u8 0) := (blk_cell BD.out n).trans (cellsOf_at n ds)
      have hfz := blk_frozen BD.out n
      have hnb : w.heap.size ≠ wc.heap.size := Nat.ne_of_lt (blk_lt BK.out)
      have hnc : wc.heap.size ≠ w.heap.size := fun e => hnb e.symm
      have hca_0 : wr.cell? ⟨w.heap.size, 0, none⟩ = some (.int .i64 a0_0) := (blk_cell BK2.out 0).trans rfl
      have X := Aside0.mk (And.intro x1 (And.intro x2 (And.intro x3 (And.intro x4 (And.intro x5 x6)))))
      clear x1 x2 x3 x4 x5 x6 x7 x8 x9 x10 d5 d6
      by_cases hV : V / 10 = 0
      · have hz1 : (hi' == 0) = true := beq_iff_eq.mpr (by have := X.out; omega)
        have hz2 : (lo' == 0) = true := beq_iff_eq.mpr (by have := X.out; omega)
        have HV := Aside0.mk hV
        clear hV
        go_upto_if 49 with (go_at_call 34; refine (hdiv _).mono ?_; rintro e w' ⟨rfl, n1, rfl⟩)
        have BD3 := Aside0.mk (blk_put (blk_drewN BD.out n1) n (.int .u8 c) (cellsOf_set n c ds))
        have HB3 := Aside0.mk (below_set (g := wc.heap.size) (j := n) (v := .int .u8 c) (pw_below_drewN HB2.out n1) HB.out.size)
        go_cut [7] (fun v7 wd => ∃ at2 : Int, v7 = .int .i64 at2 ∧ Aside0 (∃ m2 : Nat, at2 = m2 ∧ m2 + (prOut a0_0 a0_1).length = 40 ∧ wd.heap[wc.heap.size]? = some (.cells (cellsOf m2 (prOut a0_0 a0_1)).toArray 53 (0, 0))) ∧ Aside0 (Below w.heap.size w wd))
        case first =>
          rcases Int.lt_or_le a0_0 0 with hn | hn
          · have hb : decide (a0_0 < 0) = true := decide_eq_true hn
            rw [hb]
            obtain ⟨n', hn'⟩ : ∃ n', n = n' + 1 := ⟨n - 1, by have := HI.out.1.two; omega⟩
            have f1 : wrap64 (at' - 1) = (n' : Int) := by have e_ := X.out.2.1; have := HI.out.1.len; rw [e_, hn']; unfold wrap64; omega
            obtain ⟨at2, ha2⟩ : ∃ at2 : Int, at2 = (n' : Int) := ⟨_, rfl⟩
            rw [← ha2] at f1
            have f2 : (0 ≤ at2) = True := eq_true (by omega)
            have f3 : (at2 < 40) = True := eq_true (by have := HI.out.1.len; omega)
            have f4 : at2.toNat = n' := by omega
            have f5 : n' ≠ n := by omega
            have f6 : n ≠ n' := by omega
            have hcz' : wr.cell? ⟨wc.heap.size, n', none⟩ = some (.int .u8 0) := (blk_cell BD.out n').trans (cellsOf_at' n' ds (by omega))
            have hfz' := blk_frozen BD.out n'
            have HA2 := Aside0.mk ha2
            have HN2 := Aside0.mk hn'
            clear ha2 hn'
            go_wp2
            go_meet
            case rel => exact ⟨at2, by rw [f1], ⟨n', HA2.out, prOut_len_neg hn (HN2.out ▸ HI.out.1) HV.out, by rw [prOut_neg hn HI.out.1 HV.out, ← X.out.1]; exact blk_put (HN2.out ▸ BD3.out) n' _ (cellsOf_set n' 45 (c :: ds))⟩, ⟨below_set HB3.out HB.out.size⟩⟩
          · have hb : decide (a0_0 < 0) = false := decide_eq_false (Int.not_lt.2 hn)
            rw [hb]
            go_wp2
            go_meet
            case rel => exact ⟨at', by rw [d10], ⟨n, X.out.2.1, prOut_len_pos hn HI.out.1 HV.out, by rw [prOut_pos hn HI.out.1 HV.out, ← X.out.1]; exact BD3.out⟩, HB3⟩
        case rest =>
          obtain ⟨at2, rfl, ⟨m2, e1, e2, e3⟩, HB4⟩ := hcut
          obtain ⟨L, hL⟩ : ∃ L, L = prOut a0_0 a0_1 := ⟨_, rfl⟩
          rw [← hL] at e2 e3
          have E2 := Aside0.mk e2
          have E3 := Aside0.mk e3
          have HL := Aside0.mk hL
          have f2 : (0 ≤ at2) = True := eq_true (by omega)
          have f3 : (at2 ≤ 40) = True := eq_true (by omega)
          have f4 : at2.toNat = m2 := by omega
          have hpos : 0 < L.length := by rw [hL]; exact prOut_ne _ _
          have f5 : ¬ (m2 = 40) := by omega
          have hcv := Kd.C_string (P := Try.prog) (A := some ⟨_, m2, none⟩) (c := 40 - m2) Try.underlying42 Try.underlying5 Try.underlying9 (C_cells e3 e2)
          rw [show L.length = 40 - m2 from by omega] at hcv
          clear e2 e3 hL e1 hpos
          go_wp2
          go_ret
          exact ⟨by rw [← HL.out]; rfl, HB4.out⟩
      · by_cases hz : hi' = 0
        · have hz1 : (hi' == 0) = true := beq_iff_eq.mpr hz
          have hz2 : (lo' == 0) = false := beq_eq_false_iff_ne.mpr (by have := X.out; omega)
          clear hz
          have HV := Aside0.mk hV
          clear hV
          go_wp2_with (go_at_call 34; refine (hdiv _).mono ?_; rintro e w' ⟨rfl, n1, rfl⟩)
          go_roundg n
          case measure => have := HI.out.2; omega
          case rel =>
            have hp := prInv_next HI.out.1 HV.out hi' lo' X.out.2.2.1 X.out.2.2.2.1 X.out.2.2.2.2.1 X.out.2.2.2.2.2
            rw [Nat.add_sub_cancel, ← X.out.1] at hp
            exact ⟨_, n, hi', lo', (n : Int), _, rfl, rfl, by rw [d10, X.out.2.1], ⟨hp, rfl⟩, ⟨blk_put (blk_drewN BD.out _) n (.int .u8 c) (cellsOf_set n c ds)⟩, ⟨blk_far (blk_drewN BK2.out _) hnb _⟩, ⟨below_set (pw_below_drewN HB2.out _) HB.out.size⟩⟩
        · have hz1 : (hi' == 0) = false := beq_eq_false_iff_ne.mpr hz
          clear hz
          have HV := Aside0.mk hV
          clear hV
          go_wp2_with (go_at_call 34; refine (hdiv _).mono ?_; rintro e w' ⟨rfl, n1, rfl⟩)
          go_roundg n
          case measure => have := HI.out.2; omega
          case rel =>
            have hp := prInv_next HI.out.1 HV.out hi' lo' X.out.2.2.1 X.out.2.2.2.1 X.out.2.2.2.2.1 X.out.2.2.2.2.2
            rw [Nat.add_sub_cancel, ← X.out.1] at hp
            exact ⟨_, n, hi', lo', (n : Int), _, rfl, rfl, by rw [d10, X.out.2.1], ⟨hp, rfl⟩, ⟨blk_put (blk_drewN BD.out _) n (.int .u8 c) (cellsOf_set n c ds)⟩, ⟨blk_far (blk_drewN BK2.out _) hnb _⟩, ⟨below_set (pw_below_drewN HB2.out _) HB.out.size⟩⟩

def wide_Print.f (a0_0 a0_1 : Int) : Option ByteArray := if 0 ≤ a0_1 ∧ a0_1 < 18446744073709551616 then some (strOfNums (prOut a0_0 a0_1)) else none
theorem wide_Print.calls (a0_0 a0_1 : Int) (r : ByteArray) (w : World) (h : wide_Print.f a0_0 a0_1 = some r) :
    Calls Try.prog 17 #[.agg #[.int .i64 a0_0, .int .u64 a0_1]] w fun e w' => e = .returned (.string r) ∧ Below w.heap.size w w' := by
  unfold wide_Print.f at h
  by_cases hl : 0 ≤ a0_1 ∧ a0_1 < 18446744073709551616
  · rw [if_pos hl] at h
    obtain rfl := Option.some.inj h
    exact wide_Print_calls a0_0 a0_1 w hl
  · rw [if_neg hl] at h
    exact absurd h (by simp)

end Go.Proofs.Ytjmobjjajnnodaa.P
