/- The reference's opposite of a number. Guard: the low half is within 64 digits. -/
import Derived.Test.YtjmobjjajnnodaaERef01B
import Derived.Test.YtjmobjjajnnodaaPrickyardref01Of
namespace Go.Proofs.Ytjmobjjajnnodaa.P
open Go.RowKit Go.Proofs.YtjmobjjajnnodaaW.PrintWords Go.Proofs.YtjmobjjajnnodaaW.PrintLast Go.Proofs.YtjmobjjajnnodaaW.PrintMore
set_option linter.unusedVariables false
set_option linter.unusedSimpArgs false

theorem acc8_not_lo (n : Nat) : acc8 (fun j => 255 - dg n j) 8 = 18446744073709551615 - n % 18446744073709551616 := by
  simp only [acc8, dg]
  simp
  omega
theorem acc8_not_hi (n : Nat) : acc8 (fun j => 255 - dg n (8 + j)) 8 = 18446744073709551615 - n / 18446744073709551616 % 18446744073709551616 := by
  simp only [acc8, dg]
  simp
  omega
def rickyardref01_Minus.f (a0 a1 : Int) : Option (Int × Int) := if 0 ≤ a1 ∧ a1 < 18446744073709551616 then wide_Add.f (wrap64 (18446744073709551615 - IntKind.u64.wrap a0)) (18446744073709551615 - a1) 0 1 else none
theorem not_same (a0 a1 : Int) (h0 : 0 ≤ a1) (h1 : a1 < 18446744073709551616) : wrap64 (acc8 (fun j => 255 - dg (big a0 a1) (8 + j)) 8 : Nat) = wrap64 (18446744073709551615 - IntKind.u64.wrap a0) ∧ ((acc8 (fun j => 255 - dg (big a0 a1) j) 8 : Nat) : Int) = 18446744073709551615 - a1 := by
  rw [acc8_not_lo, acc8_not_hi]
  have hx : 0 ≤ IntKind.u64.wrap a0 ∧ IntKind.u64.wrap a0 < 18446744073709551616 := by rw [IntKind.wrap_u64]; omega
  unfold big bigOf
  generalize IntKind.u64.wrap a0 = X at hx ⊢
  have e1 : (X.toNat * 18446744073709551616 + a1.toNat) / 18446744073709551616 % 18446744073709551616 = X.toNat := by omega
  have e2 : (X.toNat * 18446744073709551616 + a1.toNat) % 18446744073709551616 = a1.toNat := by omega
  rw [e1, e2]
  refine ⟨?_, by omega⟩
  congr 1
  omega

set_option maxHeartbeats 2000000 in
set_option maxRecDepth 100000 in
theorem rickyardref01_Minus.calls (a0 a1 r1 r2 : Int) (w : World) (h : rickyardref01_Minus.f a0 a1 = some (r1, r2)) :
    Calls Try.prog 24 #[.agg #[.int .i64 a0, .int .u64 a1]] w fun e w' => e = .returned (.agg #[.int .i64 r1, .int .u64 r2]) ∧ Below w.heap.size w w' := by
  unfold rickyardref01_Minus.f at h
  by_cases hc : 0 ≤ a1 ∧ a1 < 18446744073709551616
  case neg => rw [if_neg hc] at h; cases h
  rw [if_pos hc] at h
  obtain ⟨n1, n2⟩ := not_same a0 a1 hc.1 hc.2
  rw [← n1, ← n2] at h
  have cA := fun W => digits_calls a0 a1 W hc.1 hc.2
  obtain ⟨x, hx⟩ : ∃ x, big a0 a1 = x := ⟨_, rfl⟩
  rw [hx] at cA h
  have hof : rickyardref01_Of.f 1 = some (0, 1) := by decide
  have hu := Try.underlying24
  have hu2 := Try.underlying48
  have HB0 := Aside0.mk (Below.refl w.heap.size w)
  have CA := Aside0.mk cA
  have HH := Aside0.mk h
  have HOF := Aside0.mk hof
  have sz1 := cells16_len (dg x)
  clear hx cA hc h n1 n2 hof
  go_enter Try.func24, Try.ntmps24
  go_wp2_with (first
    | ((with_reducible refine gate_callee (f := 31) rfl ?_); refine goesL_ (some 6) rfl rfl Try.func31 (by kernel_rfl) rfl #[.agg #[.int .i64 a0, .int .u64 a1]] rfl (by (try simp only [List.map_toArray, List.map_cons, List.map_nil]); first | done | rfl | (simp only [List.length_drop, List.length_take]; rfl)) ?_; refine (CA.out _).mono ?_; rintro e w2 ⟨rfl, hb⟩; have HB2 := Aside0.mk ((below_alloc (below_alloc HB0.out _) _).trans (hb.mono (by simp; omega))); have HR2 := Aside0.mk (blk_below (blk_new1 w _ _) hb); clear hb; refine ⟨_, rfl, ?_⟩)
    | ((with_reducible refine gate_store (t := 48) (p := 3) (v := .tmp 6) rfl ?_); refine wpList_store_rowTo rfl 48 (.tmp 3) (.tmp 6) rfl rfl w2.heap.size (cells16 (dg x)).toArray rfl rfl _ _ (blk_new w2 _) (by rw [List.size_toArray, sz1]; kernel_rfl) (by rw [List.size_toArray, List.size_toArray, sz1]; rfl) (cells16_one (dg x)) ?_))
  obtain ⟨V, hV⟩ : ∃ V, (w2.alloc (.cells #[.int .i64 0, .int .i64 0, .int .i64 0, .int .i64 0, .int .i64 0, .int .i64 0, .int .i64 0, .int .i64 0, .int .i64 0, .int .i64 0, .int .i64 0, .int .i64 0, .int .i64 0, .int .i64 0, .int .i64 0, .int .i64 0] 48)).setRow w2.heap.size (cells16 (dg x)).toArray = V := ⟨_, rfl⟩
  have hg := setRow_heap _ w2.heap.size _ (cells16 (dg x)).toArray _ _ (blk_new w2 (.cells #[.int .i64 0, .int .i64 0, .int .i64 0, .int .i64 0, .int .i64 0, .int .i64 0, .int .i64 0, .int .i64 0, .int .i64 0, .int .i64 0, .int .i64 0, .int .i64 0, .int .i64 0, .int .i64 0, .int .i64 0, .int .i64 0] 48))
  have hbv := below_setRow (below_alloc HB2.out (.cells #[.int .i64 0, .int .i64 0, .int .i64 0, .int .i64 0, .int .i64 0, .int .i64 0, .int .i64 0, .int .i64 0, .int .i64 0, .int .i64 0, .int .i64 0, .int .i64 0, .int .i64 0, .int .i64 0, .int .i64 0, .int .i64 0] 48)) HB2.out.size (cells16 (dg x)).toArray
  have hr2 := (setRow_other (w2.alloc (.cells #[.int .i64 0, .int .i64 0, .int .i64 0, .int .i64 0, .int .i64 0, .int .i64 0, .int .i64 0, .int .i64 0, .int .i64 0, .int .i64 0, .int .i64 0, .int .i64 0, .int .i64 0, .int .i64 0, .int .i64 0, .int .i64 0] 48)) w2.heap.size (w.heap.size + 1) (cells16 (dg x)).toArray (by have := blk_lt HR2.out; omega)).trans (blk_alloc HR2.out _)
  rw [hV] at hg hbv hr2 ⊢
  obtain ⟨g, hgg⟩ : ∃ g, w2.heap.size = g := ⟨_, rfl⟩
  have hgw : w.heap.size + 1 < g := by rw [← hgg]; exact blk_lt HR2.out
  rw [hgg] at hg ⊢
  have HG := Aside0.mk hg
  have HBV := Aside0.mk hbv
  have HGW := Aside0.mk hgw
  have HRV := Aside0.mk hr2
  clear hV hg hbv hgg hgw sz1 hr2
  go_loopg [4] 16 (fun kq v4 w' => ∃ (i : Nat) (iv : Int), v4 = .int .i64 iv ∧ Aside0 (iv = (i : Int) ∧ i ≤ 16 ∧ kq = 16 - i) ∧ Aside0 (w'.heap[g]? = some (.cells (cells16 (fun j => if j < i then 255 - dg x j else dg x j)).toArray 48 (0, 0))) ∧ Aside0 (w'.heap[w.heap.size + 1]? = some (.cells #[.int .i64 0, .int .u64 0] 24 (0, 0))) ∧ Aside0 (Below w.heap.size w w'))
  case atStart => exact ⟨0, 0, rfl, ⟨rfl, by decide, rfl⟩, ⟨HG.out.trans (by rw [cells16_congr (f := fun j => if j < 0 then 255 - dg x j else dg x j) (g := dg x) (fun j _ => if_neg (Nat.not_lt_zero j))])⟩, HRV, HBV⟩
  case round =>
    obtain ⟨i, iv, rfl, HI, HG, HRV, HB⟩ := hrel
    by_cases h16 : i < 16
    · have hI := HI.out
      obtain ⟨d, hd⟩ : ∃ d : Int, d = (dg x i : Int) := ⟨_, rfl⟩
      obtain ⟨v, hv⟩ : ∃ d : Int, d = ((255 - dg x i : Nat) : Int) := ⟨_, rfl⟩
      have b1 := dg_lt x i
      have c1 : decide (iv < 16) = true := decide_eq_true (by omega)
      have c2 : (0 ≤ iv) = True := eq_true (by omega)
      have c3 : (iv < 16) = True := eq_true (by omega)
      have c4 : iv.toNat = i := by omega
      have w1 : wrap64 (255 - d) = v := by unfold wrap64; omega
      have w3 : wrap64 (iv + 1) = ((i + 1 : Nat) : Int) := by unfold wrap64; omega
      have hcz_0 : wr.cell? ⟨g, i, none⟩ = some (.int .i64 d) := by rw [hd]; exact (blk_cell HG.out i).trans ((cells16_at _ h16).trans (by rw [if_neg (Nat.lt_irrefl i)]))
      have hfz_0 := blk_frozen HG.out i
      have H16 := Aside0.mk h16
      have HV := Aside0.mk hv
      have W3 := Aside0.mk w3
      clear hI b1 hd hv h16 w3
      go_wp2
      go_roundg (16 - (i + 1))
      case measure => have := HI.out.2.2; have := H16.out; omega
      case rel =>
        refine ⟨i + 1, _, rfl, ⟨W3.out, H16.out, rfl⟩, ⟨?_⟩, ⟨blk_far HRV.out (by have := HGW.out; simp; omega) _⟩, ⟨below_set HB.out (by have := HGW.out; omega)⟩⟩
        have e := blk_set HG.out i (.int .i64 v)
        rw [HV.out, cells16_set] at e
        rw [HV.out]
        refine e.trans ?_
        rw [cells16_congr (f := fun j => if j = i then 255 - dg x i else if j < i then 255 - dg x j else dg x j) (g := fun j => if j < i + 1 then 255 - dg x j else dg x j) (fun j hj => ?_)]
        by_cases h1 : j = i
        · subst h1; rw [if_pos rfl, if_pos (by omega)]
        · rw [if_neg h1]
          by_cases h2 : j < i
          · rw [if_pos h2, if_pos (by omega)]
          · rw [if_neg h2, if_neg (by omega)]
    · have c1 : decide (iv < 16) = false := decide_eq_false (by have := HI.out; omega)
      have hk16 : i = 16 := by have := HI.out; omega
      have HF := Aside0.mk (show wr.heap[g]? = some (.cells (cells16 (fun j => 255 - dg x j)).toArray 48 (0, 0)) from HG.out.trans (by rw [hk16, cells16_congr (f := fun j => if j < 16 then 255 - dg x j else dg x j) (g := fun j => 255 - dg x j) (fun j hj => if_pos hj)]))
      have sz1 := cells16_len (fun j => 255 - dg x j)
      clear h16 hk16
      go_wp2_with (first
        | ((with_reducible refine gate_callee (f := 22) rfl ?_); refine goesL_ (some 20) rfl rfl Try.func22 (by kernel_rfl) rfl #[.agg #[.int .i64 (wrap64 (acc8 (fun j ↦ 255 - dg x (8 + j)) 8 : Nat)), .int .u64 (acc8 (fun j ↦ 255 - dg x j) 8 : Nat)], .agg #[.int .i64 0, .int .u64 1]] rfl (by (try simp only [List.map_toArray, List.map_cons, List.map_nil]); first | done | rfl | (simp only [List.length_drop, List.length_take]; rfl)) ?_; refine (rickyardref01_Add.calls _ _ _ _ _ _ _ HH.out).mono ?_; rintro e w5 ⟨rfl, hb⟩; have B22 := Aside0.mk ((hb.block _ (blk_lt R4.out)).trans R4.out); have HB5 := Aside0.mk (HB4.out.trans (hb.mono HB4.out.size)); clear hb; have hcz_0 : w5.cell? ⟨w.heap.size + 1, 0, none⟩ = some (.int .i64 0) := (blk_cell B22.out 0).trans rfl; have hcz_1 : w5.cell? ⟨w.heap.size + 1, 1, none⟩ = some (.int .u64 0) := (blk_cell B22.out 1).trans rfl; have hfz_0 := blk_frozen B22.out 0; have hfz_1 := blk_frozen B22.out 1; refine ⟨_, rfl, ?_⟩)
        | ((with_reducible refine gate_callee (f := 20) rfl ?_); refine goesL_ (some 19) rfl rfl Try.func20 (by kernel_rfl) rfl #[.int .i64 1] rfl (by (try simp only [List.map_toArray, List.map_cons, List.map_nil]); first | done | rfl | (simp only [List.length_drop, List.length_take]; rfl)) ?_; refine (rickyardref01_Of.calls 1 _ _ _ HOF.out).mono ?_; rintro e w4 ⟨rfl, hb⟩; have R4 := Aside0.mk ((hb.block _ (blk_lt R3.out)).trans R3.out); have HB4 := Aside0.mk (HB3.out.trans (hb.mono HB3.out.size)); clear hb; refine ⟨_, rfl, ?_⟩)
        | ((with_reducible refine gate_callee (f := 37) rfl ?_); refine goesL_ (some 18) rfl rfl Try.func37 (by kernel_rfl) rfl #[.agg (cells16 (fun j ↦ 255 - dg x j)).toArray] rfl (by (try simp only [List.map_toArray, List.map_cons, List.map_nil]); first | done | rfl | (simp only [List.length_drop, List.length_take]; rfl)) ?_; refine (ref_From (fun j => 255 - dg x j) _ (fun j _ => by omega)).mono ?_; rintro e w3 ⟨rfl, hb⟩; have R3 := Aside0.mk ((hb.block _ (blk_lt HRV.out)).trans HRV.out); have HB3 := Aside0.mk (HB.out.trans (hb.mono HB.out.size)); clear hb; refine ⟨_, rfl, ?_⟩)
        | ((with_reducible refine gate_dst (N := 17) rfl ?_); refine wpList_load_row rfl 48 (.tmp 3) rfl g rfl _ _ _ _ HF.out hu2 rfl (by rw [List.size_toArray, sz1]; kernel_rfl) ?_))
      refine bodyPost_ret (results_cell_row rfl _ _ (w.heap.size + 1) 24 #[.int .i64 r1, .int .u64 r2] (0, 0) _ rfl (by refine blk_put (cs := #[.int .i64 r1, .int .u64 0]) ?_ 1 _ rfl; refine blk_put (cs := #[.int .i64 0, .int .u64 0]) ?_ 0 _ rfl; exact B22.out) hu rfl (by kernel_rfl)) rfl ?_
      exact ⟨rfl, below_set (below_set HB5.out (by omega)) (by omega)⟩

end Go.Proofs.Ytjmobjjajnnodaa.P
