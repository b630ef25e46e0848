/- The reference's sum: digit by digit to the base 256. Guard: the low halves are within 64 digits (every number of the program's is so). -/
import Derived.Test.YteomanpaladdjaaERef01
import Derived.Test.YteomanpaladdjaaDag
namespace Go.Proofs.Yteomanpaladdjaa.P
open Go.RowKit Go.Proofs.YteomanpaladdjaaW.PrintWords Go.Proofs.YteomanpaladdjaaW.PrintLast Go.Proofs.YteomanpaladdjaaW.PrintMore
set_option linter.unusedVariables false
set_option linter.unusedSimpArgs false

theorem acc8_lo (n : Nat) : acc8 (dg n) 8 = n % 18446744073709551616 := by
  simp only [acc8, dg]
  simp
  omega
theorem acc8_hi (n : Nat) : acc8 (fun j => dg n (8 + j)) 8 = n / 18446744073709551616 % 18446744073709551616 := by
  simp only [acc8, dg]
  simp
  omega
theorem dg_lt (n j : Nat) : dg n j < 256 := by unfold dg; omega
/-- What is carried to digit i. -/
def cy (a b i : Nat) : Nat := (a % 256 ^ i + b % 256 ^ i) / 256 ^ i
theorem pow_pos' (i : Nat) : 0 < 256 ^ i := Nat.pow_pos (by decide)
theorem cy_dg (a b i : Nat) : (dg a i + dg b i + cy a b i) % 256 = dg (a + b) i := by
  unfold dg cy
  have hp := pow_pos' i
  generalize 256 ^ i = p at hp
  have e : a + b = p * (a / p + b / p) + (a % p + b % p) := by
    have h1 := Nat.div_add_mod a p
    have h2 := Nat.div_add_mod b p
    rw [Nat.mul_add]; omega
  have e2 : (a + b) / p = a / p + b / p + (a % p + b % p) / p := by
    conv => lhs; rw [e]
    rw [Nat.mul_add_div hp]
  rw [e2]
  omega
theorem cy_next (a b i : Nat) : (dg a i + dg b i + cy a b i) / 256 = cy a b (i + 1) := by
  unfold dg cy
  have hp := pow_pos' i
  rw [Nat.pow_succ]
  generalize 256 ^ i = p at hp
  rw [Nat.mod_mul, Nat.mod_mul]
  have e : a % p + p * (a / p % 256) + (b % p + p * (b / p % 256)) = p * (a / p % 256 + b / p % 256) + (a % p + b % p) := by rw [Nat.mul_add]; omega
  rw [e, ← Nat.div_div_eq_div_mul, Nat.mul_add_div hp]
theorem cy_zero (a b : Nat) : cy a b 0 = 0 := by unfold cy; simp [Nat.mod_one]
theorem cy_le (a b i : Nat) : cy a b i ≤ 1 := by
  unfold cy
  have hp := pow_pos' i
  generalize 256 ^ i = p at hp
  have h1 := Nat.mod_lt a hp
  have h2 := Nat.mod_lt b hp
  have : (a % p + b % p) / p < 2 := by rw [Nat.div_lt_iff_lt_mul hp]; omega
  omega

/-- A number's sixteen digits' worth. -/
def big (x y : Int) : Nat := bigOf y.toNat (IntKind.u64.wrap x).toNat
theorem digits_calls (x y : Int) (w : World) (h0 : 0 ≤ y) (h1 : y < 18446744073709551616) :
    Calls Try.prog 44 #[.agg #[.int .i64 x, .int .u64 y]] w fun e w' => e = .returned (.agg (cells16 (dg (big x y))).toArray) ∧ Below w.heap.size w w' := by
  obtain ⟨L, rfl⟩ := Int.eq_ofNat_of_zero_le h0
  have hw : 0 ≤ IntKind.u64.wrap x ∧ IntKind.u64.wrap x < 18446744073709551616 := by rw [IntKind.wrap_u64]; omega
  have e : IntKind.u64.wrap x = (((IntKind.u64.wrap x).toNat : Nat) : Int) := by omega
  unfold big
  rw [Int.toNat_natCast]
  exact ref_Digits x L _ w (by omega) (by omega) e

section
variable {P : Program} {ops : Array Oper} {Q : Exit → Act → World → Prop} {K : Act → World → Prop}
theorem dag_call {i : Nat} {o : Oper} {a : Act} {W : World} {N : Option Tmp} {f : FuncId} {fn : Func} {xs : Array Operand} {ts : Array TypeId} {args : Array Value} (ho : ops[i]? = some o) (hg : o.guard = none) (hf : P.funcs[f]? = some fn) (hname : (fn.name == "runtime.NumGoroutine") = false) (hb : fn.body.isSome = true)
    (hN : o.dst = N) (hop : o.op = .call { callee := .value (.func f), args := xs, argTypes := ts }) (hargs : xs.map a.eval = args) (h : Calls P f args W fun e W' => ∃ v, e = .returned v ∧ K (a.put N v) W') : wpOp P ops Q i K a W := by
  refine wpOp_of ho hg ?_
  have hw : Region.wanted o (yielded ops a.tmps) = true := by simp [Region.wanted, hg]
  have := goes_ (Q := Q) hf hname hb args hw hN hop hargs h
  rwa [if_pos hw] at this
end

def rickyardref01_Add.f (a0 a1 b0 b1 : Int) : Option (Int × Int) := wide_Add.f a0 a1 b0 b1
theorem add_same (x y z v : Int) (h1 : 0 ≤ y) (h2 : y < 18446744073709551616) (h3 : 0 ≤ v) (h4 : v < 18446744073709551616) :
    wrap64 ((big x y + big z v) / 18446744073709551616 % 18446744073709551616 : Nat) = addHi x y z v ∧ ((big x y + big z v) % 18446744073709551616 : Nat) = addLo y v := by
  have hx : 0 ≤ IntKind.u64.wrap x ∧ IntKind.u64.wrap x < 18446744073709551616 := by rw [IntKind.wrap_u64]; omega
  have hz : 0 ≤ IntKind.u64.wrap z ∧ IntKind.u64.wrap z < 18446744073709551616 := by rw [IntKind.wrap_u64]; omega
  unfold addHi addLo sumHi sumLo sumCy big bigOf wrap64
  generalize IntKind.u64.wrap x = X at hx ⊢
  generalize IntKind.u64.wrap z = Z at hz ⊢
  omega

set_option maxHeartbeats 2000000 in
set_option maxRecDepth 100000 in
theorem rickyardref01_Add.calls (a0 a1 b0 b1 r1 r2 : Int) (w : World) (h : rickyardref01_Add.f a0 a1 b0 b1 = some (r1, r2)) :
    Calls Try.prog 41 #[.agg #[.int .i64 a0, .int .u64 a1], .agg #[.int .i64 b0, .int .u64 b1]] w fun e w' => e = .returned (.agg #[.int .i64 r1, .int .u64 r2]) ∧ Below w.heap.size w w' := by
  unfold rickyardref01_Add.f wide_Add.f at h
  by_cases hc : 0 ≤ a1 ∧ a1 < 18446744073709551616 ∧ 0 ≤ b1 ∧ b1 < 18446744073709551616
  case neg => rw [if_neg hc] at h; cases h
  rw [if_pos hc] at h
  simp only [Option.some.injEq, Prod.mk.injEq] at h
  obtain ⟨rfl, rfl⟩ := h
  obtain ⟨c1, c2, c3, c4⟩ := hc
  obtain ⟨s1, s2⟩ := add_same a0 a1 b0 b1 c1 c2 c3 c4
  rw [← s1, ← s2]
  have cA := fun W => digits_calls a0 a1 W c1 c2
  have cB := fun W => digits_calls b0 b1 W c3 c4
  obtain ⟨x, hx⟩ : ∃ x, big a0 a1 = x := ⟨_, rfl⟩
  obtain ⟨y, hy⟩ : ∃ y, big b0 b1 = y := ⟨_, rfl⟩
  rw [hx] at cA ⊢
  rw [hy] at cB ⊢
  have hu := Try.underlying34
  have hu2 := Try.underlying79
  have HB0 := Aside0.mk (Below.refl w.heap.size w)
  have CA := Aside0.mk cA
  have CB := Aside0.mk cB
  clear s1 s2 hx hy cA cB c1 c2 c3 c4
  go_enter Try.func41, Try.ntmps41
  go_upto_region 1 with (fail)
  obtain ⟨W1, hW1⟩ : ∃ W1, ((w.alloc (.cells #[.int .i64 a0, .int .u64 a1] 34)).alloc (.cells #[.int .i64 b0, .int .u64 b1] 34)).alloc (.cells #[.int .i64 0, .int .u64 0] 34) = W1 := ⟨_, rfl⟩
  rw [hW1]
  have B0 : W1.heap[w.heap.size]? = some (.cells #[.int .i64 a0, .int .u64 a1] 34 (0, 0)) := by rw [← hW1]; exact blk_alloc (blk_alloc (blk_new _ _) _) _
  have B1 : W1.heap[w.heap.size + 1]? = some (.cells #[.int .i64 b0, .int .u64 b1] 34 (0, 0)) := by rw [← hW1]; exact blk_alloc (blk_new1 _ _ _) _
  have B2 : W1.heap[w.heap.size + 1 + 1]? = some (.cells #[.int .i64 0, .int .u64 0] 34 (0, 0)) := by rw [← hW1]; exact blk_new2 _ _ _ _
  have hb1 : Below w.heap.size w W1 := by rw [← hW1]; exact below_alloc (below_alloc (below_alloc HB0.out _) _) _
  clear hW1
  refine wp_region_dag (by kernel_rfl) [0, 1, 2, 3, 4, 5] (fun i => match i with | 1 => [0] | 3 => [2] | _ => []) #[true, true, true, true, true, true, false, false] 2
    (fun i v W lo hi => match i with
      | 0 => v = .agg #[.int .i64 a0, .int .u64 a1] | 1 => v = .agg (cells16 (dg x)).toArray | 2 => v = .agg #[.int .i64 b0, .int .u64 b1] | 3 => v = .agg (cells16 (dg y)).toArray
      | _ => v = .pointer (some ⟨lo, 0, none⟩) ∧ lo < hi ∧ W.heap[lo]? = some (.cells (cells16 (fun _ => 0)).toArray 79 (0, 0)))
    (by kernel_rfl) rfl (by decide) (by decide) rfl ?mono ?step ?fin
  case mono =>
    intro i hi v W W' lo hi' hl hF hb
    simp only [List.mem_cons, List.not_mem_nil, or_false] at hi
    rcases hi with rfl | rfl | rfl | rfl | rfl | rfl
    · exact hF
    · exact hF
    · exact hF
    · exact hF
    · exact ⟨hF.1, hF.2.1, (hb.block _ (by have := hF.2.1; omega)).trans hF.2.2⟩
    · exact ⟨hF.1, hF.2.1, (hb.block _ (by have := hF.2.1; omega)).trans hF.2.2⟩
  case step =>
    intro i hi b W hb hfr hpre
    simp only [List.mem_cons, List.not_mem_nil, or_false] at hi
    rcases hi with rfl | rfl | rfl | rfl | rfl | rfl
    · refine wpOp_of rfl rfl (wp_load_row 34 (.tmp 2) rfl w.heap.size ?_ 34 #[.int .i64 a0, .int .u64 a1] (0, 0) _ ((hb.block _ (blk_lt B0)).trans B0) hu rfl (by kernel_rfl) ?_)
      · exact hfr 2 (by decide)
      · exact ⟨_, rfl, Below.refl _ _, (fun h => by cases h), rfl⟩
    · obtain ⟨_, _, h0⟩ := hpre 0 (by simp)
      refine dag_call rfl rfl Try.func44 (by kernel_rfl) rfl rfl rfl (args := #[.agg #[.int .i64 a0, .int .u64 a1]]) (by have h1_ : b.eval (.tmp 10) = .agg #[.int .i64 a0, .int .u64 a1] := h0; simp only [List.map_toArray, List.map_cons, List.map_nil, h1_]) ?_
      refine (CA.out W).mono ?_
      rintro e W' ⟨rfl, hb'⟩
      exact ⟨_, rfl, _, rfl, hb', fun h => (by cases h), rfl⟩
    · refine wpOp_of rfl rfl (wp_load_row 34 (.tmp 3) rfl (w.heap.size + 1) ?_ 34 #[.int .i64 b0, .int .u64 b1] (0, 0) _ ((hb.block _ (blk_lt B1)).trans B1) hu rfl (by kernel_rfl) ?_)
      · exact hfr 3 (by decide)
      · exact ⟨_, rfl, Below.refl _ _, (fun h => by cases h), rfl⟩
    · obtain ⟨_, _, h0⟩ := hpre 2 (by simp)
      refine dag_call rfl rfl Try.func44 (by kernel_rfl) rfl rfl rfl (args := #[.agg #[.int .i64 b0, .int .u64 b1]]) (by have h1_ : b.eval (.tmp 12) = .agg #[.int .i64 b0, .int .u64 b1] := h0; simp only [List.map_toArray, List.map_cons, List.map_nil, h1_]) ?_
      refine (CB.out W).mono ?_
      rintro e W' ⟨rfl, hb'⟩
      exact ⟨_, rfl, _, rfl, hb', fun h => (by cases h), rfl⟩
    · refine wpOp_of rfl rfl ?_
      generalize hK : (fun (a' : Act) (W' : World) => _) = K
      go_simp
      rw [← hK]
      exact ⟨.pointer (some ⟨W.heap.size, 0, none⟩), rfl, (Below.refl _ _).alloc (Nat.le_refl _) _, (fun h => by cases h), rfl, by simp, blk_new _ _⟩
    · refine wpOp_of rfl rfl ?_
      generalize hK : (fun (a' : Act) (W' : World) => _) = K
      go_simp
      rw [← hK]
      exact ⟨.pointer (some ⟨W.heap.size, 0, none⟩), rfl, (Below.refl _ _).alloc (Nat.le_refl _) _, (fun h => by cases h), rfl, by simp, blk_new _ _⟩
  case fin =>
    intro vals lo hi W hb hF hap
    obtain ⟨e4, l4, z4⟩ := (hF 4 (by simp)).1
    obtain ⟨e5, l5, z5⟩ := (hF 5 (by simp)).1
    have e1 : vals 1 = _ := (hF 1 (by simp)).1
    have e3 : vals 3 = _ := (hF 3 (by simp)).1
    have g4 := (hF 4 (by simp)).2.1
    have g5 := (hF 5 (by simp)).2.1
    have hne := hap 4 (by simp) 5 (by simp) (by decide)
    have hne' : lo 4 ≠ lo 5 := by omega
    have hg4 : w.heap.size + 1 + 1 < lo 4 := by have := blk_lt B2; omega
    have hg5 : w.heap.size + 1 + 1 < lo 5 := by have := blk_lt B2; omega
    have b2 := (hb.block _ (blk_lt B2)).trans B2
    have hbw := hb1.trans (hb.mono hb1.size)
    clear hF hap hne g4 g5 hb hb1 B0 B1 B2 l4 l5 CA CB
    simp only [putsS]
    rw [e1, e3, e4, e5]
    generalize vals 0 = v0
    generalize vals 2 = v2
    obtain ⟨p, hp⟩ : ∃ p, lo 4 = p := ⟨_, rfl⟩
    obtain ⟨q, hq⟩ : ∃ q, lo 5 = q := ⟨_, rfl⟩
    rw [hp] at z4 hne' hg4 ⊢
    rw [hq] at z5 hne' hg5 ⊢
    clear hp hq e1 e3 e4 e5
    change wpAny _ _ _ _ _ _ { tmps := #[.agg #[.int .i64 a0, .int .u64 a1], .agg #[.int .i64 b0, .int .u64 b1], .pointer (some ⟨w.heap.size, 0, none⟩), .pointer (some ⟨w.heap.size + 1, 0, none⟩), .pointer (some ⟨w.heap.size + 1 + 1, 0, none⟩), .pointer (some ⟨p, 0, none⟩), .pointer (some ⟨q, 0, none⟩), undef, undef, undef, v0, .agg (cells16 (dg x)).toArray, v2, .agg (cells16 (dg y)).toArray, undef, undef, undef, undef, undef, undef, undef, undef, undef, undef, undef, undef, undef, undef, undef, undef, undef, undef, undef, undef, undef], defers := [] } _
    refine wpAny_ready (rs := [6]) (by kernel_rfl) (by simp) ?_
    refine AllReady.cons rfl (fun K hK => ?_) ?_
    rotate_left 1
    focus exact AllReady.nil
    refine wanted_of rfl ?_
    refine wp_store_row 79 (.tmp 5) (.tmp 11) rfl p (cells16 (dg x)).toArray rfl rfl 79 _ z4 (by rw [List.size_toArray, cells16_len]; kernel_rfl) (by rw [List.size_toArray, List.size_toArray, cells16_len, cells16_len]) (cells16_one _) ?_
    refine hK _ _ ?_
    clear hK K
    refine wpAny_ready (rs := [7]) (by kernel_rfl) (by simp) ?_
    refine AllReady.cons rfl (fun K hK => ?_) ?_
    rotate_left 1
    focus exact AllReady.nil
    refine wanted_of rfl ?_
    refine wp_store_row 79 (.tmp 6) (.tmp 13) rfl q (cells16 (dg y)).toArray rfl rfl 79 _ ((setRow_other W p q _ hne'.symm).trans z5) (by rw [List.size_toArray, cells16_len]; kernel_rfl) (by rw [List.size_toArray, List.size_toArray, cells16_len, cells16_len]) (cells16_one _) ?_
    refine hK _ _ ?_
    clear hK K
    refine wpAny_done (by kernel_rfl) ?_ _
    obtain ⟨V, hV⟩ : ∃ V, (W.setRow p (cells16 (dg x)).toArray).setRow q (cells16 (dg y)).toArray = V := ⟨_, rfl⟩
    have hp1 := (setRow_other (W.setRow p (cells16 (dg x)).toArray) q p (cells16 (dg y)).toArray hne').trans (setRow_heap W p _ (cells16 (dg x)).toArray _ _ z4)
    have hq1 := setRow_heap (W.setRow p (cells16 (dg x)).toArray) q _ (cells16 (dg y)).toArray _ _ ((setRow_other W p q (cells16 (dg x)).toArray hne'.symm).trans z5)
    have h21 := (setRow_other (W.setRow p (cells16 (dg x)).toArray) q _ (cells16 (dg y)).toArray (show w.heap.size + 1 + 1 ≠ q by omega)).trans ((setRow_other W p _ (cells16 (dg x)).toArray (show w.heap.size + 1 + 1 ≠ p by omega)).trans b2)
    have hbv := below_setRow (below_setRow hbw (show w.heap.size ≤ p by omega) (cells16 (dg x)).toArray) (show w.heap.size ≤ q by omega) (cells16 (dg y)).toArray
    simp only [Act.put]
    rw [hV] at hp1 hq1 h21 hbv ⊢
    clear hV z4 z5 b2 hbw
    have HP := Aside0.mk hp1
    have HQ := Aside0.mk hq1
    have H2 := Aside0.mk h21
    have HB := Aside0.mk hbv
    have HN := Aside0.mk hne'
    have HG := Aside0.mk (And.intro hg4 hg5)
    clear hp1 hq1 h21 hbv hne' hg4 hg5
    go_wp2
    go_loopg [7, 8] 16 (fun kq v7 v8 w' => ∃ (i : Nat) (cv iv : Int), v7 = .int .i64 cv ∧ v8 = .int .i64 iv ∧ Aside0 (cv = (cy x y i : Int) ∧ iv = (i : Int) ∧ i ≤ 16 ∧ kq = 16 - i) ∧ Aside0 (w'.heap[p]? = some (.cells (cells16 (fun j => if j < i then dg (x + y) j else dg x j)).toArray 79 (0, 0))) ∧
      Aside0 (w'.heap[q]? = some (.cells (cells16 (dg y)).toArray 79 (0, 0))) ∧ Aside0 (w'.heap[w.heap.size + 1 + 1]? = some (.cells #[.int .i64 0, .int .u64 0] 34 (0, 0))) ∧ Aside0 (Below w.heap.size w w'))
    case atStart => exact ⟨0, 0, 0, rfl, rfl, ⟨by rw [cy_zero]; rfl, rfl, by decide, rfl⟩, ⟨HP.out.trans (by rw [cells16_congr (f := fun j => if j < 0 then dg (x + y) j else dg x j) (g := dg x) (fun j _ => if_neg (Nat.not_lt_zero j))])⟩, HQ, H2, HB⟩
    case round =>
      obtain ⟨i, cv, iv, rfl, rfl, HI, BP, BQ, B2, HB⟩ := hrel
      by_cases h16 : i < 16
      · have hI := HI.out
        obtain ⟨d1, hd1⟩ : ∃ d : Int, d = (dg x i : Int) := ⟨_, rfl⟩
        obtain ⟨d2, hd2⟩ : ∃ d : Int, d = (dg y i : Int) := ⟨_, rfl⟩
        obtain ⟨s1, hs1⟩ : ∃ s : Int, s = d1 + d2 := ⟨_, rfl⟩
        obtain ⟨s2, hs2⟩ : ∃ s : Int, s = s1 + cv := ⟨_, rfl⟩
        obtain ⟨m, hm⟩ : ∃ s : Int, s = (dg (x + y) i : Int) := ⟨_, rfl⟩
        obtain ⟨c', hc'⟩ : ∃ s : Int, s = (cy x y (i + 1) : Int) := ⟨_, rfl⟩
        have b1 := dg_lt x i
        have b2 := dg_lt y i
        have b3 := cy_le x y i
        have k1 := cy_dg x y i
        have k2 := cy_next x y i
        have hcv := hI.1
        have c1 : decide (iv < 16) = true := decide_eq_true (by omega)
        have c2 : (0 ≤ iv) = True := eq_true (by omega)
        have c3 : (iv < 16) = True := eq_true (by omega)
        have c4 : iv.toNat = i := by omega
        have w1 : wrap64 (d1 + d2) = s1 := by unfold wrap64; omega
        have w1b : IntKind.i64.wrap (d1 + d2) = s1 := by rw [IntKind.wrap_i64]; omega
        have w2 : wrap64 (s1 + cv) = s2 := by unfold wrap64; omega
        have w2b : IntKind.i64.wrap (s1 + cv) = s2 := by rw [IntKind.wrap_i64]; omega
        have w3 : s2.tmod 256 = m := by rw [Int.tmod_eq_emod_of_nonneg (by omega)]; omega
        have w4 : s2.tdiv 256 = c' := by rw [Int.tdiv_eq_ediv_of_nonneg (by omega)]; omega
        have w5 : wrap64 m = m := by unfold wrap64; have := dg_lt (x + y) i; omega
        have w6 : wrap64 c' = c' := by unfold wrap64; have := cy_le x y (i + 1); omega
        have w7 : wrap64 (iv + 1) = ((i + 1 : Nat) : Int) := by unfold wrap64; omega
        have hcz_0 : wr.drew.cell? ⟨p, i, none⟩ = some (.int .i64 d1) := by rw [hd1]; exact (blk_cell (blk_drew BP.out) i).trans ((cells16_at _ h16).trans (by rw [if_neg (Nat.lt_irrefl i)]))
        have hcz_1 : wr.drew.cell? ⟨q, i, none⟩ = some (.int .i64 d2) := by rw [hd2]; exact (blk_cell (blk_drew BQ.out) i).trans (cells16_at _ h16)
        have hfz_0 := blk_frozen (blk_drew BP.out) i
        have hcz_2 := blk_frozen BP.out i
        have H16 := Aside0.mk h16
        have HM := Aside0.mk hm
        have HC := Aside0.mk hc'
        clear hI b1 b2 b3 k1 k2 hcv hd1 hd2 hs1 hs2 hm hc' h16
        go_upto_region 6 with (fail)
        go_region
        go_wp2
        go_roundg (16 - (i + 1))
        case measure => have := HI.out.2.2; have := H16.out; omega
        case rel =>
          refine ⟨i + 1, c', _, by rw [w6], by rw [w7], ⟨HC.out, rfl, H16.out, rfl⟩, ⟨?_⟩, ⟨?_⟩, ⟨?_⟩, ⟨?_⟩⟩
          · have e := blk_set BP.out i (.int .i64 m)
            rw [HM.out, cells16_set] at e
            rw [HM.out]
            refine e.trans ?_
            rw [cells16_congr (f := fun j => if j = i then dg (x + y) i else if j < i then dg (x + y) j else dg x j) (g := fun j => if j < i + 1 then dg (x + y) j else dg x j) (fun j hj => ?_)]
            by_cases h1 : j = i
            · subst h1; rw [if_pos rfl, if_pos (by omega)]
            · rw [if_neg h1]
              by_cases h2 : j < i
              · rw [if_pos h2, if_pos (by omega)]
              · rw [if_neg h2, if_neg (by omega)]
          · exact blk_far BQ.out (by simpa using HN.out.symm) _
          · exact blk_far B2.out (by have := HG.out.1; simp; omega) _
          · exact (below_set HB.out (by have := HG.out.1; omega)).drew
      · have c1 : decide (iv < 16) = false := decide_eq_false (by have := HI.out; omega)
        have hi16 : i = 16 := by have := HI.out; omega
        have HF := Aside0.mk (show wr.heap[p]? = some (.cells (cells16 (dg (x + y))).toArray 79 (0, 0)) from BP.out.trans (by rw [hi16, cells16_congr (f := fun j => if j < 16 then dg (x + y) j else dg x j) (g := dg (x + y)) (fun j hj => if_pos hj)]))
        have sz1 := cells16_len (dg (x + y))
        clear h16 hi16
        go_wp2_with (first
          | ((with_reducible refine gate_callee (f := 45) rfl ?_); refine goesL_ (some 34) rfl rfl Try.func45 (by kernel_rfl) rfl #[.agg (cells16 (dg (x + y))).toArray] rfl (by (try simp only [List.map_toArray, List.map_cons, List.map_nil]); first | done | rfl | (simp only [List.length_drop, List.length_take]; rfl)) ?_; refine (ref_From (dg (x + y)) _ (fun j _ => dg_lt (x + y) j)).mono ?_; rintro e w2 ⟨rfl, hb⟩; have B22 := Aside0.mk ((hb.block _ (blk_lt B2.out)).trans B2.out); have HB2 := Aside0.mk (HB.out.trans (hb.mono HB.out.size)); clear hb; have hcz_0 : w2.cell? ⟨w.heap.size + 1 + 1, 0, none⟩ = some (.int .i64 0) := (blk_cell B22.out 0).trans rfl; have hcz_1 : w2.cell? ⟨w.heap.size + 1 + 1, 1, none⟩ = some (.int .u64 0) := (blk_cell B22.out 1).trans rfl; have hfz_0 := blk_frozen B22.out 0; have hfz_1 := blk_frozen B22.out 1; refine ⟨_, rfl, ?_⟩)
          | ((with_reducible refine gate_dst (N := 33) rfl ?_); refine wpList_load_row rfl 79 (.tmp 5) rfl p rfl _ _ _ _ HF.out hu2 rfl (by rw [List.size_toArray, sz1]; kernel_rfl) ?_))
        refine bodyPost_ret (results_cell_row rfl _ _ (w.heap.size + 1 + 1) 34 #[.int .i64 (wrap64 (acc8 (fun j => dg (x + y) (8 + j)) 8 : Nat)), .int .u64 (acc8 (dg (x + y)) 8 : Nat)] (0, 0) _ rfl (by refine blk_put (cs := #[.int .i64 (wrap64 (acc8 (fun j => dg (x + y) (8 + j)) 8 : Nat)), .int .u64 0]) ?_ 1 _ rfl; refine blk_put (cs := #[.int .i64 0, .int .u64 0]) ?_ 0 _ rfl; exact B22.out) hu rfl (by kernel_rfl)) rfl ?_
        exact ⟨by rw [acc8_hi, acc8_lo], below_set (below_set HB2.out (by omega)) (by omega)⟩

end Go.Proofs.Yteomanpaladdjaa.P
