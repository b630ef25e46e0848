/- The reference's filter: where it stands; Place. No conditions. -/
import Derived.Test.YtliafeandefocaaBloomS
import Derived.Test.YtliafeandefocaaPrickyardref05Sum
namespace Go.Proofs.Ytliafeandefocaa.P
open Go.RowKit Go.Proofs.YtliafeandefocaaW.PrintWords Go.Proofs.YtliafeandefocaaW.PrintLast Go.Proofs.YtliafeandefocaaW.PrintMore
set_option linter.unusedVariables false
set_option linter.unusedSimpArgs false

/-- The document's filter stands at block g, its digits at block d. -/
structure RFlt (W : World) (g d : Nat) (h : Int) (D : List Bool) : Prop where
  fl : W.heap[g]? = some (.cells #[.slice (some ⟨d, 0, none⟩) D.length D.length, .int .i64 h] 57 (0, 0))
  bt : W.heap[d]? = some (.cells (D.map Value.bool).toArray 4 (0, 0))
section
variable {A B : World} {g d : Nat} {h : Int} {D : List Bool}
theorem RFlt.keep (hF : RFlt A g d h D) (hg : B.heap[g]? = A.heap[g]?) (hb : B.heap[d]? = A.heap[d]?) : RFlt B g d h D := ⟨hg.trans hF.fl, hb.trans hF.bt⟩
theorem RFlt.gt (hF : RFlt A g d h D) : g < A.heap.size := (Array.getElem?_eq_some_iff.1 hF.fl).1
theorem RFlt.btlt (hF : RFlt A g d h D) : d < A.heap.size := (Array.getElem?_eq_some_iff.1 hF.bt).1
theorem RFlt.ne (hF : RFlt A g d h D) : g ≠ d := by
  rintro rfl
  have h1 := hF.fl.symm.trans hF.bt
  simp at h1
theorem RFlt.below (hF : RFlt A g d h D) (hb : Below A.heap.size A B) : RFlt B g d h D := hF.keep (hb.block _ hF.gt) (hb.block _ hF.btlt)
theorem RFlt.bits (hF : RFlt A g d h D) : A.cell? ⟨g, 0, none⟩ = some (.slice (some ⟨d, 0, none⟩) D.length D.length) := by simp [World.cell?, hF.fl]
theorem RFlt.hashes (hF : RFlt A g d h D) : A.cell? ⟨g, 1, none⟩ = some (.int .i64 h) := by simp [World.cell?, hF.fl]
theorem RFlt.at_ (hF : RFlt A g d h D) {i : Nat} (hi : i < D.length) : A.cell? ⟨d, i, none⟩ = some (.bool (D.getD i false)) := by simp [World.cell?, hF.bt, hi]
theorem RFlt.froz (hF : RFlt A g d h D) (i : Nat) : A.frozen? ⟨d, i, none⟩ = false := by simp [World.frozen?, hF.bt]
theorem RFlt.set (hF : RFlt A g d h D) (i : Nat) (x : Bool) : RFlt (A.setCell ⟨d, i, none⟩ (.bool x)) g d h (D.set i x) := by
  refine ⟨?_, ?_⟩
  · rw [Below.heap_setCell _ _ _ _ (by simpa using hF.ne), hF.fl]; simp
  · have hb := hF.bt
    rw [List.map_set]
    show (A.heap.modify d _)[d]? = _
    obtain ⟨hlt, hk⟩ := Array.getElem?_eq_some_iff.1 hb
    rw [Array.getElem?_eq_getElem (by rw [Array.size_modify]; exact hlt), Array.getElem_modify_self, hk]
    simp
end

theorem rSum_f (l : List Int) : rickyardref05_Sum.f l = some (kA l) := rfl
/-- The second sum, made odd. -/
theorem kB_ref (key : List Int) : kA (key ++ [1]) = bvi (cmore (BitVec.ofInt 32 (kA key)) [1]) := by
  unfold kA cmore
  rw [ofInt_bvi]
  simp [cfold, List.foldl_append]
theorem or_one (x : Int) (h0 : 0 ≤ x) (h1 : x < 4294967296) : Go.bits .or .u32 x 1 = if x % 2 = 0 then x + 1 else x := by
  rw [bits_or_u32]
  obtain ⟨n, rfl⟩ : ∃ n : Nat, x = n := ⟨x.toNat, by omega⟩
  unfold bvi
  rw [BitVec.toNat_or, BitVec.toNat_ofInt, BitVec.toNat_ofInt]
  have e3 : ((n : Int) % ((2 ^ 32 : Nat) : Int)).toNat = n := by omega
  have e4 : ((1 : Int) % ((2 ^ 32 : Nat) : Int)).toNat = 1 := by decide
  rw [e3, e4]
  have e5 : n ||| 1 = 2 * (n / 2) + 1 := by
    refine Nat.eq_of_testBit_eq fun k => ?_
    cases k with
    | zero => simp
    | succ k => rw [Nat.testBit_or, Nat.testBit_succ, Nat.testBit_succ, Nat.testBit_succ, show (2 * (n / 2) + 1) / 2 = n / 2 by omega]; simp
  rw [e5]
  split <;> omega
theorem aAt_closed (B a : Int) (ha : 0 ≤ a ∧ a < 4294967296) : ∀ i : Nat, aAt B i a = (a + i * B) % 4294967296
  | 0 => by simp [aAt]; omega
  | i + 1 => by
    rw [aAt, aAt_closed B a ha i]
    have e : a + ((i + 1 : Nat) : Int) * B = (a + i * B) + B := by
      rw [show ((i + 1 : Nat) : Int) = (i : Int) + 1 from rfl, Int.add_mul]; omega
    rw [e]; omega

theorem kB_odd (key : List Int) : kB key = if kA (key ++ [1]) % 2 = 0 then kA (key ++ [1]) + 1 else kA (key ++ [1]) := by
  rw [kB_ref, ← or_one _ (bvi_nonneg _) (bvi_lt _)]; rfl
theorem kB_range (key : List Int) : 0 ≤ kB key ∧ kB key < 4294967296 := by
  have := kA_range (key ++ [1])
  rw [kB_odd]; split <;> omega

set_option maxHeartbeats 2000000 in
set_option maxRecDepth 100000 in
theorem place_calls (g d : Nat) (h : Int) (D : List Bool) (A0 : Option Addr) (c0 : Nat) (key : List Int) (i : Nat) (w : World) (hF : RFlt w g d h D) (hD : 1 ≤ D.length) (hD2 : D.length ≤ 65536) (hi : i ≤ 8) (hr : Kd.C (Kd.int .u8) w A0 key.length key) (hc0 : key.length ≤ c0) (hlen : key.length ≤ 100000) :
    Calls Try.prog 26 #[ptr g, .slice A0 key.length c0, .int .i64 i] w fun e w' => e = .returned (.int .i64 (aAt (kB key) i (kA key) % (D.length : Int))) ∧ Below w.heap.size w w' := by
  have HF := Aside0.mk hF
  have HR1 := Aside0.mk hr
  have HC := Aside0.mk hc0
  have HLN := Aside0.mk hlen
  have HD := Aside0.mk hD
  have HD2 := Aside0.mk hD2
  obtain ⟨q, hq⟩ : ∃ q, kA key = q := ⟨_, rfl⟩
  obtain ⟨X, hX⟩ : ∃ X, key ++ [1] = X := ⟨_, rfl⟩
  have HX := Aside0.mk hX
  obtain ⟨p, hp⟩ : ∃ p, kA X = p := ⟨_, rfl⟩
  have hq0 := kA_range key
  have hp0 := kA_range X
  have hkb := kB_odd key
  rw [hX] at hkb
  clear hX
  rw [hq] at hq0
  rw [hp] at hp0 hkb
  have HQ := Aside0.mk hq
  have HP := Aside0.mk hp
  have n1 : IntKind.u32.wrap (i : Int) = (i : Int) := by rw [IntKind.wrap_u32]; omega
  have n2 : IntKind.u32.wrap (D.length : Int) = (D.length : Int) := by rw [IntKind.wrap_u32]; omega
  have n3 : ((D.length : Int) == 0) = false := beq_eq_false_iff_ne.mpr (by omega)
  have n4 : ((D.length : Int) = 0) = False := eq_false (by omega)
  have n5 : (D.length = 0) = False := eq_false (by omega)
  have hm : Int.tmod p 2 = p % 2 := Int.tmod_eq_emod_of_nonneg hp0.1
  clear hF hr hc0 hlen hD hD2 hq hp
  by_cases hpar : p % 2 = 0
  · rw [if_pos hpar] at hkb
    have d1 : (p % 2 == 0) = true := beq_iff_eq.mpr hpar
    have w1 : IntKind.u32.wrap (p + 1) = p + 1 := by rw [IntKind.wrap_u32]; omega
    have HKB := Aside0.mk hkb
    have HPAR := Aside0.mk hpar
    clear hpar hkb
    go_enter Try.func26, Try.ntmps26
    go_wp2_with (first
      | ((with_reducible refine gate_builtin (b := .append) (xs := #[.tmp 10, .tmp 11]) rfl ?_); at_builtin; refine Kd.R_append_rows (Kd.int .u8) (w0 := w) w.heap.size rfl (.tmp 10) (.tmp 11) 23 5 (.int .u8 0) 1 rfl Try.underlying23 info5 rfl (by decide) (by omega) (.slice none 0 0) ([] : List Int) key _ _ _ (fun _ => True) (fun _ => False) rfl rfl ?aO ?aR (fun _ _ h => h) (fun _ h => h.elim) ?aF (Below.refl _ _) ?aS ?aL ?_; (case aR => exact HR1.out); (case aF => exact (fun _ _ => trivial)); (case aO => exact Kd.R_nil _ _ _ _ (fun _ => True)); (case aS => exact Nat.le_refl _); (case aL => have := HLN.out; simp; omega); intro v1 w1 ho hb hg hat; have HO1 := Aside0.mk ho; have HB1 := Aside0.mk hb; clear ho hb hg hat)
      | ((with_reducible refine gate_builtin (b := .append) (xs := #[.tmp 13, .tmp 14]) rfl ?_); at_builtin; refine Kd.R_append (Kd.int .u8) (w0 := w) w.heap.size rfl (.tmp 13) (.tmp 14) 23 5 (.int .u8 0) 1 rfl Try.underlying23 info5 rfl (by decide) (by omega) v1 ([] ++ key) 1 [.int .u8 1] (fun _ => True) (fun _ => False) rfl rfl ?aP (fun _ hk => hk.elim) ?aF ?aO ?aB ?aS ?aL ?_; (case aP => exact rfl); (case aF => exact (fun _ _ => trivial)); (case aO => exact HO1.out); (case aB => exact HB1.out); (case aS => exact HB1.out.size); (case aL => have := HLN.out; simp; omega); intro v2 w2 ho hb hg hat; rw [show (([] : List Int) ++ key) ++ [1] = X from HX.out] at ho; obtain ⟨A2, c2, rfl, hl2, hC2⟩ := Kd.R_reads ho; have HC2 := Aside0.mk hC2; have HL2 := Aside0.mk hl2; have HB2 := Aside0.mk hb; clear ho hb hg hat hl2 hC2)
      | ((with_reducible refine gate_callee (f := 30) rfl ?_); refine goesL_ (some 17) rfl rfl Try.func30 (by kernel_rfl) rfl #[.slice A0 key.length c0] rfl (by (try simp only [List.map_toArray, List.map_cons, List.map_nil]); first | done | rfl | (simp only [List.length_drop, List.length_take]; rfl)) ?_; refine (rickyardref05_Sum.calls A0 c0 key _ _ ?s1 ?s2 (rSum_f key)).mono ?_; (case s1 => exact Kd.C_below HR1.out HB2.out); (case s2 => exact HC.out); rintro e w3 ⟨rfl, hd⟩; have HB3 := Aside0.mk (HB2.out.trans (hd.below.mono HB2.out.size)); have HC3 := Aside0.mk (Kd.C_below HC2.out hd.below); clear hd; refine ⟨_, rfl, ?_⟩; rw [HQ.out])
      | ((with_reducible refine gate_callee (f := 30) rfl ?_); refine goesL_ (some 19) rfl rfl Try.func30 (by kernel_rfl) rfl #[.slice A2 X.length c2] rfl (by (try simp only [List.map_toArray, List.map_cons, List.map_nil]); first | done | rfl | (simp only [List.length_drop, List.length_take]; rfl)) ?_; refine (rickyardref05_Sum.calls A2 c2 X _ _ ?s1 ?s2 (rSum_f X)).mono ?_; (case s1 => exact HC3.out); (case s2 => exact HL2.out); rintro e w4 ⟨rfl, hd⟩; have hb4 := HB3.out.trans (hd.below.mono HB3.out.size); have hcell := (HF.out.below hb4).bits; have HB4 := Aside0.mk hb4; clear hd hb4; refine ⟨_, rfl, ?_⟩; rw [HP.out]))
    go_ret
    have e1 : aAt (kB key) i (kA key) = (q + (i : Int) * (p + 1)) % 4294967296 := by rw [aAt_closed _ _ (kA_range key), HQ.out, HKB.out]
    rw [e1]
    have hd1 := HD.out
    have hd2 := HD2.out
    have t0 := Int.emod_nonneg ((q + (i : Int) * (p + 1)) % 4294967296) (show (D.length : Int) ≠ 0 by omega)
    have t1 := Int.emod_lt_of_pos ((q + (i : Int) * (p + 1)) % 4294967296) (show 0 < (D.length : Int) by omega)
    refine ⟨?_, HB4.out⟩
    have e2 : ∀ z : Int, 0 ≤ z → z < (D.length : Int) → wrap64 z = z := fun z h1 h2 => by unfold wrap64; omega
    show Ending.returned (Value.int .i64 (wrap64 ((q + (i : Int) * (p + 1)) % 4294967296 % (D.length : Int)))) = _
    rw [e2 _ t0 t1]
  · rw [if_neg hpar] at hkb
    have d1 : (p % 2 == 0) = false := beq_eq_false_iff_ne.mpr hpar
    have HKB := Aside0.mk hkb
    have HPAR := Aside0.mk hpar
    clear hpar hkb
    go_enter Try.func26, Try.ntmps26
    go_wp2_with (first
      | ((with_reducible refine gate_builtin (b := .append) (xs := #[.tmp 10, .tmp 11]) rfl ?_); at_builtin; refine Kd.R_append_rows (Kd.int .u8) (w0 := w) w.heap.size rfl (.tmp 10) (.tmp 11) 23 5 (.int .u8 0) 1 rfl Try.underlying23 info5 rfl (by decide) (by omega) (.slice none 0 0) ([] : List Int) key _ _ _ (fun _ => True) (fun _ => False) rfl rfl ?aO ?aR (fun _ _ h => h) (fun _ h => h.elim) ?aF (Below.refl _ _) ?aS ?aL ?_; (case aR => exact HR1.out); (case aF => exact (fun _ _ => trivial)); (case aO => exact Kd.R_nil _ _ _ _ (fun _ => True)); (case aS => exact Nat.le_refl _); (case aL => have := HLN.out; simp; omega); intro v1 w1 ho hb hg hat; have HO1 := Aside0.mk ho; have HB1 := Aside0.mk hb; clear ho hb hg hat)
      | ((with_reducible refine gate_builtin (b := .append) (xs := #[.tmp 13, .tmp 14]) rfl ?_); at_builtin; refine Kd.R_append (Kd.int .u8) (w0 := w) w.heap.size rfl (.tmp 13) (.tmp 14) 23 5 (.int .u8 0) 1 rfl Try.underlying23 info5 rfl (by decide) (by omega) v1 ([] ++ key) 1 [.int .u8 1] (fun _ => True) (fun _ => False) rfl rfl ?aP (fun _ hk => hk.elim) ?aF ?aO ?aB ?aS ?aL ?_; (case aP => exact rfl); (case aF => exact (fun _ _ => trivial)); (case aO => exact HO1.out); (case aB => exact HB1.out); (case aS => exact HB1.out.size); (case aL => have := HLN.out; simp; omega); intro v2 w2 ho hb hg hat; rw [show (([] : List Int) ++ key) ++ [1] = X from HX.out] at ho; obtain ⟨A2, c2, rfl, hl2, hC2⟩ := Kd.R_reads ho; have HC2 := Aside0.mk hC2; have HL2 := Aside0.mk hl2; have HB2 := Aside0.mk hb; clear ho hb hg hat hl2 hC2)
      | ((with_reducible refine gate_callee (f := 30) rfl ?_); refine goesL_ (some 17) rfl rfl Try.func30 (by kernel_rfl) rfl #[.slice A0 key.length c0] rfl (by (try simp only [List.map_toArray, List.map_cons, List.map_nil]); first | done | rfl | (simp only [List.length_drop, List.length_take]; rfl)) ?_; refine (rickyardref05_Sum.calls A0 c0 key _ _ ?s1 ?s2 (rSum_f key)).mono ?_; (case s1 => exact Kd.C_below HR1.out HB2.out); (case s2 => exact HC.out); rintro e w3 ⟨rfl, hd⟩; have HB3 := Aside0.mk (HB2.out.trans (hd.below.mono HB2.out.size)); have HC3 := Aside0.mk (Kd.C_below HC2.out hd.below); clear hd; refine ⟨_, rfl, ?_⟩; rw [HQ.out])
      | ((with_reducible refine gate_callee (f := 30) rfl ?_); refine goesL_ (some 19) rfl rfl Try.func30 (by kernel_rfl) rfl #[.slice A2 X.length c2] rfl (by (try simp only [List.map_toArray, List.map_cons, List.map_nil]); first | done | rfl | (simp only [List.length_drop, List.length_take]; rfl)) ?_; refine (rickyardref05_Sum.calls A2 c2 X _ _ ?s1 ?s2 (rSum_f X)).mono ?_; (case s1 => exact HC3.out); (case s2 => exact HL2.out); rintro e w4 ⟨rfl, hd⟩; have hb4 := HB3.out.trans (hd.below.mono HB3.out.size); have hcell := (HF.out.below hb4).bits; have HB4 := Aside0.mk hb4; clear hd hb4; refine ⟨_, rfl, ?_⟩; rw [HP.out]))
    go_ret
    have e1 : aAt (kB key) i (kA key) = (q + (i : Int) * p) % 4294967296 := by rw [aAt_closed _ _ (kA_range key), HQ.out, HKB.out]
    rw [e1]
    have hd1 := HD.out
    have hd2 := HD2.out
    have t0 := Int.emod_nonneg ((q + (i : Int) * p) % 4294967296) (show (D.length : Int) ≠ 0 by omega)
    have t1 := Int.emod_lt_of_pos ((q + (i : Int) * p) % 4294967296) (show 0 < (D.length : Int) by omega)
    refine ⟨?_, HB4.out⟩
    have e2 : ∀ z : Int, 0 ≤ z → z < (D.length : Int) → wrap64 z = z := fun z h1 h2 => by unfold wrap64; omega
    show Ending.returned (Value.int .i64 (wrap64 ((q + (i : Int) * p) % 4294967296 % (D.length : Int)))) = _
    rw [e2 _ t0 t1]

end Go.Proofs.Ytliafeandefocaa.P
