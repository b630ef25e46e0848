/- block.Write: a row's bytes. No conditions. -/
import Derived.Test.YticddiiigfkamaaBkSpec
namespace Go.Proofs.Yticddiiigfkamaa.P
open Go.RowKit Go.Proofs.YticddiiigfkamaaW.PrintWords Go.Proofs.YticddiiigfkamaaW.PrintLast Go.Proofs.YticddiiigfkamaaW.PrintMore
set_option linter.unusedVariables false
set_option linter.unusedSimpArgs false

def block_Write.f (l : List Pr) : Option (List Int × Int) := some (if rightE l = 0 then (encTo l l.length, 0) else ([], rightE l))
/-- The three short numbers, j of them. -/
def shN (a b c : Nat) : Nat → List Int
  | 0 => []
  | 1 => shortL a
  | 2 => shortL a ++ shortL b
  | _ => shortL a ++ shortL b ++ shortL c
theorem shN_len (a b c j : Nat) : (shN a b c j).length ≤ 6 := by
  have h1 := shortL_len a
  have h2 := shortL_len b
  have h3 := shortL_len c
  match j with
  | 0 => simp [shN]
  | 1 => simp only [shN]; omega
  | 2 => simp only [shN, List.length_append]; omega
  | _ + 3 => simp only [shN, List.length_append]; omega
theorem enc_lim {l : List Pr} (h : ∀ p ∈ l, p.f0.length ≤ 4096 ∧ p.f1.length ≤ 4096) {i : Nat} (hi : i ≤ l.length) (hl : l.length ≤ 4096) (s t : List Int) (hs : s.length ≤ 6) (ht : t.length ≤ 2) : ((encTo l i ++ s).length + t.length) * 1 ≤ 140737488355328 := by
  have := encTo_len l h i hi
  have h2 : 8198 * i ≤ 8198 * 4096 := Nat.mul_le_mul_left _ (by omega)
  rw [List.length_append]
  omega
theorem enc_lim2 {l : List Pr} (h : ∀ p ∈ l, p.f0.length ≤ 4096 ∧ p.f1.length ≤ 4096) {i : Nat} (hi : i ≤ l.length) (hl : l.length ≤ 4096) {a b c : Nat} {n : Nat} {x : List Int} (hx : x.length ≤ 4096) : ((encTo l i ++ shN a b c 3).length + (x.drop n).length) * 1 ≤ 140737488355328 := by
  have := encTo_len l h i hi
  have h2 : 8198 * i ≤ 8198 * 4096 := Nat.mul_le_mul_left _ (by omega)
  have := shN_len a b c 3
  rw [List.length_append, List.length_drop]
  omega
theorem enc_lim3 {l : List Pr} (h : ∀ p ∈ l, p.f0.length ≤ 4096 ∧ p.f1.length ≤ 4096) {i : Nat} (hi : i ≤ l.length) (hl : l.length ≤ 4096) {a b c : Nat} {n k : Nat} {x : Pr} (hx : x.f0.length ≤ 4096 ∧ x.f1.length ≤ 4096) (hk : x.f1.length = k) : ((encTo l i ++ shN a b c 3 ++ x.f0.drop n).length + k) * 1 ≤ 140737488355328 := by
  have := enc_lim2 h hi hl (a := a) (b := b) (c := c) (n := n) hx.1
  have := encTo_len l h i hi
  have h2 : 8198 * i ≤ 8198 * 4096 := Nat.mul_le_mul_left _ (by omega)
  have := shN_len a b c 3
  rw [List.length_append, List.length_append, List.length_drop]
  omega
theorem right_zero {l : List Pr} (h : rightE l = 0) : l.length ≤ 4096 ∧ l.any longP = false ∧ risesP l = true := by
  unfold rightE at h
  by_cases h1 : 4096 < l.length
  · rw [if_pos h1] at h; simp at h
  rw [if_neg h1] at h
  by_cases h2 : l.any longP = true
  · rw [if_pos h2] at h; simp at h
  rw [if_neg h2] at h
  by_cases h3 : risesP l = true
  · exact ⟨by omega, by simpa using h2, h3⟩
  · rw [if_neg h3] at h; simp at h

set_option maxHeartbeats 4000000 in
set_option maxRecDepth 100000 in
theorem block_Write.calls (A0 : Option Addr) (c0 : Nat) (l0 : List Pr) (r1 : List Int) (r2 : Int) (w : World) (hr0 : Kd.C k39 w A0 l0.length l0) (hc0 : l0.length ≤ c0) (h : block_Write.f l0 = some (r1, r2)) :
    Calls Try.prog 11 #[.slice A0 l0.length c0] w fun e w' => ∃ v0_ : Value, e = .returned (.tuple #[v0_, .int .i64 r2]) ∧ Kd.R (Kd.int .u8) 5 w' w.heap.size (fun _ => True) v0_ r1 ∧ Below w.heap.size w w' := by
  have h := Option.some.inj h
  have hu := Try.underlying39
  have hm := hr0.2.1
  have HR := Aside0.mk hr0
  have HB0 := Aside0.mk (Below.refl w.heap.size w)
  obtain ⟨re, hre⟩ : ∃ re, rightE l0 = re := ⟨_, rfl⟩
  have hright := fun W (hb : Below w.heap.size w W) => block_right.calls A0 c0 l0 re W (Kd.C_below HR.out hb) hc0 (by unfold block_right.f; rw [hre])
  by_cases hz : re = 0
  case neg =>
    rw [hre, if_neg hz] at h
    obtain ⟨rfl, rfl⟩ := Prod.mk.injEq .. ▸ h
    have HRT := Aside0.mk hright
    have d1 : (re == 0) = false := beq_eq_false_iff_ne.mpr hz
    have d2 : (re != 0) = true := bne_iff_ne.mpr hz
    clear h hre hright hz hr0 hc0
    go_enter Try.func11, Try.ntmps11
    go_wp2_with (first | ((with_reducible refine gate_callee (f := 22) rfl ?_); refine goesL_ (some 12) rfl rfl Try.func22 (by kernel_rfl) rfl #[.slice A0 l0.length c0] rfl (by (try simp only [List.map_toArray, List.map_cons, List.map_nil]); first | done | rfl | (simp only [List.length_drop, List.length_take]; rfl)) ?_; refine (HRT.out _ HB0.out).mono ?_; rintro e w2 ⟨rfl, hb⟩; have HB2 := Aside0.mk hb; clear hb; refine ⟨_, rfl, ?_⟩))
    refine bodyPost_ret (results_tmp2 rfl _ _ _) rfl ?_
    exact ⟨_, rfl, Kd.R_nil _ _ _ _ _, HB2.out⟩
  subst hz
  rw [hre, if_pos rfl] at h
  obtain ⟨rfl, rfl⟩ := Prod.mk.injEq .. ▸ h
  obtain ⟨k1, k2, k3⟩ := right_zero hre
  have HRT := Aside0.mk hright
  have HL := Aside0.mk k1
  have HNL := Aside0.mk (not_long k2)
  have HC0 := Aside0.mk hc0
  obtain ⟨i5, hi5, hzz⟩ := Option.map_eq_some_iff.1 info5
  simp only [Prod.mk.injEq] at hzz
  have HI5 := Aside0.mk (And.intro hi5 hzz.2.1)
  clear h hre hright hr0 hc0 k1 k2 k3 hi5 hzz
  go_enter Try.func11, Try.ntmps11
  go_wp2_with (first | ((with_reducible refine gate_callee (f := 22) rfl ?_); refine goesL_ (some 12) rfl rfl Try.func22 (by kernel_rfl) rfl #[.slice A0 l0.length c0] rfl (by (try simp only [List.map_toArray, List.map_cons, List.map_nil]); first | done | rfl | (simp only [List.length_drop, List.length_take]; rfl)) ?_; refine (HRT.out _ HB0.out).mono ?_; rintro e w2 ⟨rfl, hb⟩; have HB2 := Aside0.mk hb; clear hb; refine ⟨_, rfl, ?_⟩))
  go_loopg [5, 18] (l0.length) (fun kq v5 v18 w' => ∃ i : Nat, v18 = .int .i64 i ∧ Aside0 (i ≤ l0.length ∧ kq = l0.length - i) ∧ Aside0 (Kd.R (Kd.int .u8) 5 w' w.heap.size (fun _ => True) v5 (encTo l0 i)) ∧ Aside0 (Below w.heap.size w w'))
  case atStart => exact ⟨0, rfl, ⟨Nat.zero_le _, rfl⟩, ⟨Kd.R_nil _ _ _ _ _⟩, HB2⟩
  case round =>
    obtain ⟨i, rfl, HI, HO, HB⟩ := hrel
    by_cases hlt : i < l0.length
    case neg =>
      have d1 : decide ((i : Int) < (l0.length : Int)) = false := decide_eq_false (by omega)
      have d1b : decide (i < l0.length) = false := decide_eq_false hlt
      have HE := Aside0.mk (show i = l0.length by have := HI.out.1; omega)
      clear hlt
      go_wp2
      refine bodyPost_ret (results_tmp2 rfl _ _ _) rfl ?_
      exact ⟨_, rfl, by have h_ := HO.out; rw [HE.out] at h_; exact h_, HB.out⟩
    obtain ⟨ad, B0, d0, B1, d1, rfl, hc0, hc1, hl0, hC0, hl1, hC1⟩ := at_T39 HR.out (i : Int) (by omega) (by omega)
    obtain ⟨x, hxx⟩ : ∃ x, l0[i]? = some x := ⟨_, List.getElem?_eq_getElem hlt⟩
    have hx : rd_T39 l0 (i : Int) = x := by simp [rd_T39, List.getD_eq_getElem?_getD, hxx]
    rw [hx] at hc0 hc1 hl0 hC0 hl1 hC1
    rw [Int.toNat_natCast] at hc0 hc1
    replace hc0 := cell_bl hc0 HB.out
    replace hc1 := cell_bl hc1 HB.out
    have hnl := HNL.out x (List.mem_of_getElem? hxx)
    obtain ⟨n, hn⟩ : ∃ n, cnAt i (prevK l0 i) x = n := ⟨_, rfl⟩
    have hnle : n ≤ x.f0.length := by rw [← hn]; exact cnAt_le _ _ _
    have HX := Aside0.mk hxx
    have HLT := Aside0.mk hlt
    have HN := Aside0.mk hn
    have HNLE := Aside0.mk hnle
    have HNX := Aside0.mk hnl
    have HL0 := Aside0.mk hl0
    have HL1 := Aside0.mk hl1
    have HC00 := Aside0.mk hC0
    have HC11 := Aside0.mk hC1
    have e1_ : decide ((i : Int) < (l0.length : Int)) = true := decide_eq_true (by omega)
    have i1 : (0 ≤ (i : Int)) = True := eq_true (by omega)
    have i2 : ((i : Int) < (l0.length : Int)) = True := eq_true (by omega)
    have i3 : (i < l0.length) = True := eq_true hlt
    have hwr : wrap64 ((i : Int) + 1) = ((i + 1 : Nat) : Int) := by have := HL.out; unfold wrap64; omega
    have htm : Int.tmod (i : Int) 8 = ((i % 8 : Nat) : Int) := by rw [Int.tmod_eq_emod_of_nonneg (by omega)]; omega
    obtain ⟨m8, hm8⟩ : ∃ m : Int, ((i % 8 : Nat) : Int) = m := ⟨_, rfl⟩
    have HM8 := Aside0.mk hm8
    rw [hm8] at htm
    clear hx hl0 hC0 hl1 hC1 hxx hn hnle hnl hm8 hlt
    go_upto_if 25 with (fail)
    obtain ⟨pb, hpb⟩ : ∃ pb, wr.heap.size = pb := ⟨_, rfl⟩
    have BP0 := Aside0.mk (blk_new wr (.cells #[.slice B0 x.f0.length d0, .slice B1 x.f1.length d1] 39 (0, 0)))
    have HO0 := Aside0.mk (Kd.R_alloc HO.out (.cells #[.slice B0 x.f0.length d0, .slice B1 x.f1.length d1] 39 (0, 0)))
    have HB0_ := Aside0.mk (below_alloc HB.out (.cells #[.slice B0 x.f0.length d0, .slice B1 x.f1.length d1] 39 (0, 0)))
    have HPG := Aside0.mk (show w.heap.size ≤ pb from by rw [← hpb]; exact HB.out.size)
    rw [hpb] at BP0
    rw [hpb]
    obtain ⟨W7, hW7⟩ : ∃ W7, wr.alloc (.cells #[.slice B0 x.f0.length d0, .slice B1 x.f1.length d1] 39 (0, 0)) = W7 := ⟨_, rfl⟩
    rw [hW7] at BP0 HO0 HB0_ ⊢
    have HWB := Aside0.mk (show Below wr.heap.size wr W7 from by rw [← hW7]; exact (Below.refl _ _).alloc (Nat.le_refl _) _)
    clear hpb hW7 hc0 hc1
    go_cut [8] (fun v8 wc => v8 = .int .i64 (n : Int) ∧ Aside0 (Kd.R (Kd.int .u8) 5 wc w.heap.size (fun _ => True) u5 (encTo l0 i)) ∧ Aside0 (wc.heap[pb]? = some (.cells #[.slice B0 x.f0.length d0, .slice B1 x.f1.length d1] 39 (0, 0))) ∧ Aside0 (Below w.heap.size w wc))
    case first =>
      by_cases h8 : i % 8 = 0
      · have hd : decide (0 < m8) = false := decide_eq_false (by have := HM8.out; omega)
        have H8 := Aside0.mk h8
        clear h8
        rw [hd]
        go_wp2
        go_meet
        case rel => exact ⟨by rw [← HN.out, cnAt, if_pos H8.out]; rfl, HO0, BP0, HB0_⟩
      · have hd : decide (0 < m8) = true := decide_eq_true (by have := HM8.out; omega)
        obtain ⟨j, hj⟩ : ∃ j, i = j + 1 := ⟨i - 1, by omega⟩
        have hjl : j < l0.length := by have := HLT.out; omega
        obtain ⟨y, hyy⟩ : ∃ y, l0[j]? = some y := ⟨_, List.getElem?_eq_getElem hjl⟩
        obtain ⟨ad2, E0, f0, E1, f1, e_, hc0, hc1, hl0, hC0, hl1, hC1⟩ := at_T39 (Kd.C_below HR.out HB0_.out) (j : Int) (by omega) (by omega)
        cases e_
        have hy : rd_T39 l0 (j : Int) = y := by simp [rd_T39, List.getD_eq_getElem?_getD, hyy]
        rw [hy] at hc0 hc1 hl0 hC0 hl1 hC1
        rw [Int.toNat_natCast] at hc0 hc1
        have hpk : prevK l0 i = y.f0 := by rw [hj]; exact prevK_succ l0 hyy
        have hnn : cmn y.f0 x.f0 = n := by rw [← HN.out, cnAt, if_neg h8, hpk]
        have hcm := cmn_quiet (w := W7) (c0 := f0) (c1 := d0) hC0 hl0 (Kd.C_below HC00.out HB0_.out) HL0.out (by have := (HNL.out y (List.mem_of_getElem? hyy)).1; omega)
        rw [hnn] at hcm
        have HCM := Aside0.mk hcm
        have hcp0 : W7.cell? ⟨pb, 0, none⟩ = some (.slice B0 x.f0.length d0) := (blk_cell BP0.out 0).trans rfl
        have hw1 : wrap64 ((i : Int) - 1) = (j : Int) := by have := HL.out; unfold wrap64; omega
        have j1 : (0 ≤ (j : Int)) = True := eq_true (by omega)
        have j2 : ((j : Int) < (l0.length : Int)) = True := eq_true (by omega)
        have j3 : (j < l0.length) = True := eq_true hjl
        clear h8 hj hjl hyy hl0 hC0 hl1 hC1 hy hpk hnn hcm
        rw [hd]
        go_wp2
        go_quiet ((go_at_call 14; exact HCM.out _))
        go_wp2
        go_meet
        case rel => exact ⟨rfl, ⟨by (with_reducible repeat (first | apply Kd.R_alloc | apply Kd.R_drewN | apply Kd.R_drew)); exact HO0.out⟩, ⟨by (with_reducible repeat (first | refine blk_drewN ?_ _ | refine blk_drew ?_)); exact BP0.out⟩, ⟨by repeat (first | exact HB0_.out | apply pw_below_drewN | apply below_drew1)⟩⟩
    case rest =>
      obtain ⟨rfl, HO2, BP, HB2⟩ := hcut
      have hcp0 : wc.cell? ⟨pb, 0, none⟩ = some (.slice B0 x.f0.length d0) := (blk_cell BP.out 0).trans rfl
      have hcp1 : wc.cell? ⟨pb, 1, none⟩ = some (.slice B1 x.f1.length d1) := (blk_cell BP.out 1).trans rfl
      obtain ⟨m, hm_⟩ : ∃ m, x.f0.length - n = m := ⟨_, rfl⟩
      obtain ⟨k, hk_⟩ : ∃ k, x.f1.length = k := ⟨_, rfl⟩
      have hnx := HNX.out
      have hle := HNLE.out
      have hw1 : wrap64 ((x.f0.length : Int) - (n : Int)) = (m : Int) := by unfold wrap64; omega
      have HMK := Aside0.mk (show n < 16384 ∧ m < 16384 ∧ k < 16384 by omega)
      have HM := Aside0.mk hm_
      have HK := Aside0.mk hk_
      have u1 : IntKind.u64.wrap (n : Int) = (n : Int) := by rw [IntKind.wrap_u64]; omega
      have u2 : IntKind.u64.wrap (m : Int) = (m : Int) := by rw [IntKind.wrap_u64]; omega
      have u3 : IntKind.u64.wrap (k : Int) = (k : Int) := by rw [IntKind.wrap_u64]; omega
      have x0 : ∀ w, (Instr.index 52 (.agg #[.int .i64 (n : Int), .int .i64 (m : Int), .int .i64 (k : Int)]) (.int .i64 0)).run Try.prog w = .ok (.int .i64 (n : Int)) w := fun _ => by kernel_rfl
      have x1 : ∀ w, (Instr.index 52 (.agg #[.int .i64 (n : Int), .int .i64 (m : Int), .int .i64 (k : Int)]) (.int .i64 1)).run Try.prog w = .ok (.int .i64 (m : Int)) w := fun _ => by kernel_rfl
      have x2 : ∀ w, (Instr.index 52 (.agg #[.int .i64 (n : Int), .int .i64 (m : Int), .int .i64 (k : Int)]) (.int .i64 2)).run Try.prog w = .ok (.int .i64 (k : Int)) w := fun _ => by kernel_rfl
      clear hnx hle hm_ hk_
      obtain ⟨wo, rfl⟩ : ∃ wo : World, wo = wr := ⟨_, rfl⟩
      go_wp2
      rw [HK.out, hw1]
      clear hw1
      go_loopg [5, 45] 3 (fun kq v5 v45 w' => ∃ j : Nat, v45 = .int .i64 (j : Int) ∧ Aside0 (j ≤ 3 ∧ kq = 3 - j) ∧ Aside0 (Kd.R (Kd.int .u8) 5 w' w.heap.size (fun _ => True) v5 (encTo l0 i ++ shN n m k j)) ∧ Aside0 (w'.heap[pb]? = some (.cells #[.slice B0 x.f0.length d0, .slice B1 x.f1.length d1] 39 (0, 0))) ∧ Aside0 (Below w.heap.size w w'))
      case atStart => exact ⟨0, rfl, ⟨by decide, rfl⟩, ⟨by rw [shN, List.append_nil]; exact HO2.out⟩, BP, HB2⟩
      case round =>
        obtain ⟨j, rfl, HJ, HO3, BP3, HB3⟩ := hrel
        clear hcp0 hcp1
        match j, HJ, HO3 with
        | 0, HJ, HO3 =>
          go_wp2_with (first
            | ((with_reducible refine gate_callee (f := 23) rfl ?_); refine goesL_ (some 51) rfl rfl Try.func23 (by kernel_rfl) rfl #[.int .u64 (n : Int)] rfl (by (try simp only [List.map_toArray, List.map_cons, List.map_nil]); first | done | rfl | (simp only [List.length_drop, List.length_take]; rfl)) ?_; refine (code_Short.calls 2 (n : Int) (shortL n) _ (short_f n HMK.out.1 0)).mono ?_; rintro e w3 ⟨v3, rfl, hR, hb⟩; obtain ⟨A3, c3, rfl, hle3, hC3⟩ := Kd.R_reads hR; have HC3 := Aside0.mk hC3; have HO4 := Aside0.mk (Kd.R_below HO3.out hb); have BP4 := Aside0.mk (blk_below BP3.out hb); have HB4 := Aside0.mk (HB3.out.trans (hb.mono HB3.out.size)); clear hR hb hle3 hC3; refine ⟨_, rfl, ?_⟩)
            | ((with_reducible refine gate_builtin (b := .append) (xs := #[.tmp 48, .tmp 51]) rfl ?_); at_builtin; refine Kd.R_append_rows (Kd.int .u8) (w0 := w) w.heap.size rfl (.tmp 48) (.tmp 51) 23 5 (.int .u8 0) 1 rfl Try.underlying23 info5 rfl (by decide) (by omega) _ (encTo l0 i ++ shN n m k 0) (shortL n) _ _ _ (fun _ => True) (fun _ => False) rfl rfl ?aO ?aR (fun _ _ h => h) (fun _ h => h.elim) ?aF ?aB ?aS ?aL ?_; (case aO => exact HO4.out); (case aR => exact HC3.out); (case aF => exact (fun _ _ => trivial)); (case aB => exact HB4.out); (case aS => exact HB4.out.size); (case aL => exact enc_lim HNL.out HI.out.1 HL.out _ _ (shN_len n m k 0) (shortL_len n).1); intro v4 w4 ho hb hg hat; have HO5 := Aside0.mk ho; have HB5 := Aside0.mk hb; have BP5 := Aside0.mk (blk_grown BP4.out hg (Kd.R_ne HO4.out BP4.out (by decide))); clear ho hb hg hat))
          go_roundg (3 - (0 + 1))
          case measure => have := HJ.out.2; omega
          case rel => exact ⟨1, rfl, ⟨by decide, rfl⟩, ⟨by have h_ := HO5.out; rw [List.append_assoc] at h_; exact h_⟩, BP5, HB5⟩
        | 1, HJ, HO3 =>
          go_wp2_with (first
            | ((with_reducible refine gate_callee (f := 23) rfl ?_); refine goesL_ (some 51) rfl rfl Try.func23 (by kernel_rfl) rfl #[.int .u64 (m : Int)] rfl (by (try simp only [List.map_toArray, List.map_cons, List.map_nil]); first | done | rfl | (simp only [List.length_drop, List.length_take]; rfl)) ?_; refine (code_Short.calls 2 (m : Int) (shortL m) _ (short_f m HMK.out.2.1 0)).mono ?_; rintro e w3 ⟨v3, rfl, hR, hb⟩; obtain ⟨A3, c3, rfl, hle3, hC3⟩ := Kd.R_reads hR; have HC3 := Aside0.mk hC3; have HO4 := Aside0.mk (Kd.R_below HO3.out hb); have BP4 := Aside0.mk (blk_below BP3.out hb); have HB4 := Aside0.mk (HB3.out.trans (hb.mono HB3.out.size)); clear hR hb hle3 hC3; refine ⟨_, rfl, ?_⟩)
            | ((with_reducible refine gate_builtin (b := .append) (xs := #[.tmp 48, .tmp 51]) rfl ?_); at_builtin; refine Kd.R_append_rows (Kd.int .u8) (w0 := w) w.heap.size rfl (.tmp 48) (.tmp 51) 23 5 (.int .u8 0) 1 rfl Try.underlying23 info5 rfl (by decide) (by omega) _ (encTo l0 i ++ shN n m k 1) (shortL m) _ _ _ (fun _ => True) (fun _ => False) rfl rfl ?aO ?aR (fun _ _ h => h) (fun _ h => h.elim) ?aF ?aB ?aS ?aL ?_; (case aO => exact HO4.out); (case aR => exact HC3.out); (case aF => exact (fun _ _ => trivial)); (case aB => exact HB4.out); (case aS => exact HB4.out.size); (case aL => exact enc_lim HNL.out HI.out.1 HL.out _ _ (shN_len n m k 1) (shortL_len m).1); intro v4 w4 ho hb hg hat; have HO5 := Aside0.mk ho; have HB5 := Aside0.mk hb; have BP5 := Aside0.mk (blk_grown BP4.out hg (Kd.R_ne HO4.out BP4.out (by decide))); clear ho hb hg hat))
          go_roundg (3 - (1 + 1))
          case measure => have := HJ.out.2; omega
          case rel => exact ⟨2, rfl, ⟨by decide, rfl⟩, ⟨by have h_ := HO5.out; rw [List.append_assoc] at h_; exact h_⟩, BP5, HB5⟩
        | 2, HJ, HO3 =>
          go_wp2_with (first
            | ((with_reducible refine gate_callee (f := 23) rfl ?_); refine goesL_ (some 51) rfl rfl Try.func23 (by kernel_rfl) rfl #[.int .u64 (k : Int)] rfl (by (try simp only [List.map_toArray, List.map_cons, List.map_nil]); first | done | rfl | (simp only [List.length_drop, List.length_take]; rfl)) ?_; refine (code_Short.calls 2 (k : Int) (shortL k) _ (short_f k HMK.out.2.2 0)).mono ?_; rintro e w3 ⟨v3, rfl, hR, hb⟩; obtain ⟨A3, c3, rfl, hle3, hC3⟩ := Kd.R_reads hR; have HC3 := Aside0.mk hC3; have HO4 := Aside0.mk (Kd.R_below HO3.out hb); have BP4 := Aside0.mk (blk_below BP3.out hb); have HB4 := Aside0.mk (HB3.out.trans (hb.mono HB3.out.size)); clear hR hb hle3 hC3; refine ⟨_, rfl, ?_⟩)
            | ((with_reducible refine gate_builtin (b := .append) (xs := #[.tmp 48, .tmp 51]) rfl ?_); at_builtin; refine Kd.R_append_rows (Kd.int .u8) (w0 := w) w.heap.size rfl (.tmp 48) (.tmp 51) 23 5 (.int .u8 0) 1 rfl Try.underlying23 info5 rfl (by decide) (by omega) _ (encTo l0 i ++ shN n m k 2) (shortL k) _ _ _ (fun _ => True) (fun _ => False) rfl rfl ?aO ?aR (fun _ _ h => h) (fun _ h => h.elim) ?aF ?aB ?aS ?aL ?_; (case aO => exact HO4.out); (case aR => exact HC3.out); (case aF => exact (fun _ _ => trivial)); (case aB => exact HB4.out); (case aS => exact HB4.out.size); (case aL => exact enc_lim HNL.out HI.out.1 HL.out _ _ (shN_len n m k 2) (shortL_len k).1); intro v4 w4 ho hb hg hat; have HO5 := Aside0.mk ho; have HB5 := Aside0.mk hb; have BP5 := Aside0.mk (blk_grown BP4.out hg (Kd.R_ne HO4.out BP4.out (by decide))); clear ho hb hg hat))
          go_roundg (3 - (2 + 1))
          case measure => have := HJ.out.2; omega
          case rel => exact ⟨3, rfl, ⟨by decide, rfl⟩, ⟨by have h_ := HO5.out; rw [List.append_assoc] at h_; exact h_⟩, BP5, HB5⟩
        | 3, HJ, HO3 =>
          obtain ⟨A', hcut, hcut2, hcut3⟩ := print_drop_of (P := Try.prog) (Value.int .u8) (0 : Int) 23 5 .i64 Try.underlying23 HI5.out.1 HI5.out.2 B0 d0 x.f0 (n : Int) (by omega) (by have := HNLE.out; omega) HL0.out
          rw [Int.toNat_natCast] at hcut hcut2 hcut3
          have hdl : (x.f0.drop n).length = m := by rw [List.length_drop, HM.out]
          rw [hdl] at hcut hcut2
          have hcp0 : ∀ q, (wr.drewN q).cell? ⟨pb, 0, none⟩ = some (.slice B0 x.f0.length d0) := fun q => (blk_cell (blk_drewN BP3.out q) 0).trans rfl
          have HCUT := Aside0.mk hcut2
          have hca : wr.drew.cell? ⟨pb, 0, none⟩ = some (.slice B0 x.f0.length d0) := (blk_cell (blk_drew BP3.out) 0).trans rfl
          have hcb : wr.drew.cell? ⟨pb, 1, none⟩ = some (.slice B1 k d1) := by rw [← HK.out]; exact (blk_cell (blk_drew BP3.out) 1).trans rfl
          have HDL := Aside0.mk hdl
          clear hcut2 hcut3 hcp0 hdl
          have HS := Aside0.mk (And.intro hca hcb)
          have HBD := Aside0.mk (show Below w.heap.size w wr.drew from HB3.out.drew)
          have HKC := Aside0.mk (show ∀ W, Below w.heap.size w W → Kd.C (Kd.int .u8) W A' m (x.f0.drop n) from fun W hb => Kd.C_of_reads (d := (0 : Int)) (h1 := fun _ => rfl) (HCUT.out W (Kd.reads_of_C (Kd.C_below HC00.out hb))))
          have HVC := Aside0.mk (show ∀ W, Below w.heap.size w W → Kd.C (Kd.int .u8) W B1 k x.f1 from fun W hb => by rw [← HK.out]; exact Kd.C_below HC11.out hb)
          clear hca hcb
          go_wp2
          go_region_held3 (fun W' => W'.cell? ⟨pb, 0, none⟩ = some (.slice B0 x.f0.length d0) ∧ W'.cell? ⟨pb, 1, none⟩ = some (.slice B1 k d1)) (first | (with_reducible exact HS.out) | (with_reducible exact HS5.out) | (with_reducible exact HS6.out))
            (first
              | (refine Kd.R_append_rows_step (Kd.int .u8) (w0 := w) w.heap.size (by rfl) (.tmp 54) (.tmp 58) 23 5 (.int .u8 0) 1 rfl Try.underlying23 info5 rfl (by decide) (by omega) _ (encTo l0 i ++ shN n m k 3) (x.f0.drop n) A' m (d0 - n) (fun _ => True) (fun _ => False) (by rfl) (by rfl) (Kd.R_drew HO3.out) (HKC.out _ HBD.out) (fun _ _ h => h) (fun _ h => h.elim) (fun _ _ => trivial) HBD.out HBD.out.size (by rw [← HDL.out]; exact enc_lim2 HNL.out HI.out.1 HL.out HNX.out.1) ?_; intro v5 w5 ho hb hg hat; have HO5 := Aside0.mk ho; have HB5 := Aside0.mk hb; have HG5 := Aside0.mk hg; have BP5 := Aside0.mk (blk_grown (blk_drew BP3.out) hg (Kd.R_ne (Kd.R_drew HO3.out) (blk_drew BP3.out) (by decide))); have HS5 := Aside0.mk (And.intro ((blk_cell BP5.out 0).trans rfl : w5.cell? ⟨pb, 0, none⟩ = some (.slice B0 x.f0.length d0)) (by rw [← HK.out]; exact (blk_cell BP5.out 1).trans rfl : w5.cell? ⟨pb, 1, none⟩ = some (.slice B1 k d1))); clear ho hb hg hat)
              | (refine Kd.R_append_rows_step (Kd.int .u8) (w0 := w) w.heap.size (by rfl) (.tmp 59) (.tmp 61) 23 5 (.int .u8 0) 1 rfl Try.underlying23 info5 rfl (by decide) (by omega) _ (encTo l0 i ++ shN n m k 3 ++ x.f0.drop n) x.f1 B1 k d1 (fun _ => True) (fun _ => False) (by rfl) (by rfl) HO5.out (HVC.out _ HB5.out) (fun _ _ h => h) (fun _ h => h.elim) (fun _ _ => trivial) HB5.out HB5.out.size (enc_lim3 HNL.out HI.out.1 HL.out HNX.out HK.out) ?_; intro v6 w6 ho hb hg hat; have HO6 := Aside0.mk ho; have HB6 := Aside0.mk hb; have BP6 := Aside0.mk (blk_grown BP5.out hg (Kd.R_ne HO5.out BP5.out (by decide))); have HS6 := Aside0.mk (And.intro ((blk_cell BP6.out 0).trans rfl : w6.cell? ⟨pb, 0, none⟩ = some (.slice B0 x.f0.length d0)) (by rw [← HK.out]; exact (blk_cell BP6.out 1).trans rfl : w6.cell? ⟨pb, 1, none⟩ = some (.slice B1 k d1))); clear ho hb hg hat))
          go_wp2
          go_roundg (l0.length - (i + 1))
          case measure => have := HI.out.2; have := HLT.out; omega
          case rel =>
            refine ⟨i + 1, by rw [hwr], ⟨HLT.out, rfl⟩, ⟨?_⟩, ⟨by repeat (first | exact HB6.out | apply pw_below_drewN | apply below_drew1)⟩⟩
            have h_ := HO6.out
            have e_ : encTo l0 (i + 1) = encTo l0 i ++ shN n m k 3 ++ x.f0.drop n ++ x.f1 := by
              rw [encTo_succ l0 HX.out, HN.out, encP, HM.out, HK.out]
              simp only [shN, List.append_assoc]
            rw [e_]
            (with_reducible repeat (first | apply Kd.R_alloc | apply Kd.R_drewN | apply Kd.R_drew))
            exact h_
        | j + 4, HJ, HO3 => exact absurd HJ.out.1 (by omega)

end Go.Proofs.Yticddiiigfkamaa.P
