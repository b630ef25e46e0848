/- The reference's filter whose digits have more room than they take: Place and May. No conditions. -/
import Derived.Test.YtliafeandefocaaBloomRC
import Derived.Test.YtliafeandefocaaBloomW
import Derived.Test.YtliafeandefocaaBloomL
import Derived.Test.YtliafeandefocaaBloomS
import Derived.Test.YtliafeandefocaaPbloomFit
import Derived.Test.YtliafeandefocaaPrickyardref07Fit
namespace Go.Proofs.Ytliafeandefocaa.P
open Go.RowKit Go.Proofs.YtliafeandefocaaW.PrintWords Go.Proofs.YtliafeandefocaaW.PrintLast Go.Proofs.YtliafeandefocaaW.PrintMore
set_option linter.unusedVariables false
set_option linter.unusedSimpArgs false

/-- The document's filter stands at block g, its digits at block d, which has room for cp of them. -/
structure RFltC (W : World) (g d cp : Nat) (h : Int) (D : List Bool) : Prop where
  fl : W.heap[g]? = some (.cells #[.slice (some ⟨d, 0, none⟩) D.length cp, .int .i64 h] 57 (0, 0))
  bt : ∃ cs : Array Value, W.heap[d]? = some (.cells cs 4 (0, 0)) ∧ ∀ i, i < D.length → cs[i]? = some (.bool (D.getD i false))
section
variable {A B : World} {g d cp : Nat} {h : Int} {D : List Bool}
theorem RFltC.keep (hF : RFltC A g d cp h D) (hg : B.heap[g]? = A.heap[g]?) (hb : B.heap[d]? = A.heap[d]?) : RFltC B g d cp h D := ⟨hg.trans hF.fl, by obtain ⟨cs, h1, h2⟩ := hF.bt; exact ⟨cs, hb.trans h1, h2⟩⟩
theorem RFltC.gt (hF : RFltC A g d cp h D) : g < A.heap.size := (Array.getElem?_eq_some_iff.1 hF.fl).1
theorem RFltC.btlt (hF : RFltC A g d cp h D) : d < A.heap.size := by obtain ⟨cs, h1, h2⟩ := hF.bt; exact (Array.getElem?_eq_some_iff.1 h1).1
theorem RFltC.below (hF : RFltC A g d cp h D) (hb : Below A.heap.size A B) : RFltC B g d cp h D := hF.keep (hb.block _ hF.gt) (hb.block _ hF.btlt)
theorem RFltC.bits (hF : RFltC A g d cp h D) : A.cell? ⟨g, 0, none⟩ = some (.slice (some ⟨d, 0, none⟩) D.length cp) := by simp [World.cell?, hF.fl]
theorem RFltC.hashes (hF : RFltC A g d cp h D) : A.cell? ⟨g, 1, none⟩ = some (.int .i64 h) := by simp [World.cell?, hF.fl]
theorem RFltC.at_ (hF : RFltC A g d cp h D) {i : Nat} (hi : i < D.length) : A.cell? ⟨d, i, none⟩ = some (.bool (D.getD i false)) := by
  obtain ⟨cs, h1, h2⟩ := hF.bt
  simp only [World.cell?, h1]
  exact h2 i hi
end

set_option maxHeartbeats 2000000 in
set_option maxRecDepth 100000 in
theorem place2_calls (g d cp : Nat) (h : Int) (D : List Bool) (A0 : Option Addr) (c0 : Nat) (key : List Int) (i : Nat) (w : World) (hF : RFltC w g d cp h D) (hD : 1 ≤ D.length) (hD2 : D.length ≤ 65536) (hi : i ≤ 8) (hr : Kd.C (Kd.int .u8) w A0 key.length key) (hc0 : key.length ≤ c0) (hlen : key.length ≤ 100000) :
    Calls Try.prog 26 #[ptr g, .slice A0 key.length c0, .int .i64 i] w fun e w' => e = .returned (.int .i64 (aAt (kB key) i (kA key) % (D.length : Int))) ∧ Below w.heap.size w w' := by
  have HF := Aside0.mk hF
  have HR1 := Aside0.mk hr
  have HC := Aside0.mk hc0
  have HLN := Aside0.mk hlen
  have HD := Aside0.mk hD
  have HD2 := Aside0.mk hD2
  obtain ⟨q, hq⟩ : ∃ q, kA key = q := ⟨_, rfl⟩
  obtain ⟨X, hX⟩ : ∃ X, key ++ [1] = X := ⟨_, rfl⟩
  have HX := Aside0.mk hX
  obtain ⟨p, hp⟩ : ∃ p, kA X = p := ⟨_, rfl⟩
  have hq0 := kA_range key
  have hp0 := kA_range X
  have hkb := kB_odd key
  rw [hX] at hkb
  clear hX
  rw [hq] at hq0
  rw [hp] at hp0 hkb
  have HQ := Aside0.mk hq
  have HP := Aside0.mk hp
  have n1 : IntKind.u32.wrap (i : Int) = (i : Int) := by rw [IntKind.wrap_u32]; omega
  have n2 : IntKind.u32.wrap (D.length : Int) = (D.length : Int) := by rw [IntKind.wrap_u32]; omega
  have n3 : ((D.length : Int) == 0) = false := beq_eq_false_iff_ne.mpr (by omega)
  have n4 : ((D.length : Int) = 0) = False := eq_false (by omega)
  have n5 : (D.length = 0) = False := eq_false (by omega)
  have hm : Int.tmod p 2 = p % 2 := Int.tmod_eq_emod_of_nonneg hp0.1
  clear hF hr hc0 hlen hD hD2 hq hp
  by_cases hpar : p % 2 = 0
  · rw [if_pos hpar] at hkb
    have d1 : (p % 2 == 0) = true := beq_iff_eq.mpr hpar
    have w1 : IntKind.u32.wrap (p + 1) = p + 1 := by rw [IntKind.wrap_u32]; omega
    have HKB := Aside0.mk hkb
    have HPAR := Aside0.mk hpar
    clear hpar hkb
    go_enter Try.func26, Try.ntmps26
    go_wp2_with (first
      | ((with_reducible refine gate_builtin (b := .append) (xs := #[.tmp 10, .tmp 11]) rfl ?_); at_builtin; refine Kd.R_append_rows (Kd.int .u8) (w0 := w) w.heap.size rfl (.tmp 10) (.tmp 11) 23 5 (.int .u8 0) 1 rfl Try.underlying23 info5 rfl (by decide) (by omega) (.slice none 0 0) ([] : List Int) key _ _ _ (fun _ => True) (fun _ => False) rfl rfl ?aO ?aR (fun _ _ h => h) (fun _ h => h.elim) ?aF (Below.refl _ _) ?aS ?aL ?_; (case aR => exact HR1.out); (case aF => exact (fun _ _ => trivial)); (case aO => exact Kd.R_nil _ _ _ _ (fun _ => True)); (case aS => exact Nat.le_refl _); (case aL => have := HLN.out; simp; omega); intro v1 w1 ho hb hg hat; have HO1 := Aside0.mk ho; have HB1 := Aside0.mk hb; clear ho hb hg hat)
      | ((with_reducible refine gate_builtin (b := .append) (xs := #[.tmp 13, .tmp 14]) rfl ?_); at_builtin; refine Kd.R_append (Kd.int .u8) (w0 := w) w.heap.size rfl (.tmp 13) (.tmp 14) 23 5 (.int .u8 0) 1 rfl Try.underlying23 info5 rfl (by decide) (by omega) v1 ([] ++ key) 1 [.int .u8 1] (fun _ => True) (fun _ => False) rfl rfl ?aP (fun _ hk => hk.elim) ?aF ?aO ?aB ?aS ?aL ?_; (case aP => exact rfl); (case aF => exact (fun _ _ => trivial)); (case aO => exact HO1.out); (case aB => exact HB1.out); (case aS => exact HB1.out.size); (case aL => have := HLN.out; simp; omega); intro v2 w2 ho hb hg hat; rw [show (([] : List Int) ++ key) ++ [1] = X from HX.out] at ho; obtain ⟨A2, c2, rfl, hl2, hC2⟩ := Kd.R_reads ho; have HC2 := Aside0.mk hC2; have HL2 := Aside0.mk hl2; have HB2 := Aside0.mk hb; clear ho hb hg hat hl2 hC2)
      | ((with_reducible refine gate_callee (f := 30) rfl ?_); refine goesL_ (some 17) rfl rfl Try.func30 (by kernel_rfl) rfl #[.slice A0 key.length c0] rfl (by (try simp only [List.map_toArray, List.map_cons, List.map_nil]); first | done | rfl | (simp only [List.length_drop, List.length_take]; rfl)) ?_; refine (rickyardref05_Sum.calls A0 c0 key _ _ ?s1 ?s2 (rSum_f key)).mono ?_; (case s1 => exact Kd.C_below HR1.out HB2.out); (case s2 => exact HC.out); rintro e w3 ⟨rfl, hd⟩; have HB3 := Aside0.mk (HB2.out.trans (hd.below.mono HB2.out.size)); have HC3 := Aside0.mk (Kd.C_below HC2.out hd.below); clear hd; refine ⟨_, rfl, ?_⟩; rw [HQ.out])
      | ((with_reducible refine gate_callee (f := 30) rfl ?_); refine goesL_ (some 19) rfl rfl Try.func30 (by kernel_rfl) rfl #[.slice A2 X.length c2] rfl (by (try simp only [List.map_toArray, List.map_cons, List.map_nil]); first | done | rfl | (simp only [List.length_drop, List.length_take]; rfl)) ?_; refine (rickyardref05_Sum.calls A2 c2 X _ _ ?s1 ?s2 (rSum_f X)).mono ?_; (case s1 => exact HC3.out); (case s2 => exact HL2.out); rintro e w4 ⟨rfl, hd⟩; have hb4 := HB3.out.trans (hd.below.mono HB3.out.size); have hcell := (HF.out.below hb4).bits; have HB4 := Aside0.mk hb4; clear hd hb4; refine ⟨_, rfl, ?_⟩; rw [HP.out]))
    go_ret
    have e1 : aAt (kB key) i (kA key) = (q + (i : Int) * (p + 1)) % 4294967296 := by rw [aAt_closed _ _ (kA_range key), HQ.out, HKB.out]
    rw [e1]
    have hd1 := HD.out
    have hd2 := HD2.out
    have t0 := Int.emod_nonneg ((q + (i : Int) * (p + 1)) % 4294967296) (show (D.length : Int) ≠ 0 by omega)
    have t1 := Int.emod_lt_of_pos ((q + (i : Int) * (p + 1)) % 4294967296) (show 0 < (D.length : Int) by omega)
    refine ⟨?_, HB4.out⟩
    have e2 : ∀ z : Int, 0 ≤ z → z < (D.length : Int) → wrap64 z = z := fun z h1 h2 => by unfold wrap64; omega
    show Ending.returned (Value.int .i64 (wrap64 ((q + (i : Int) * (p + 1)) % 4294967296 % (D.length : Int)))) = _
    rw [e2 _ t0 t1]
  · rw [if_neg hpar] at hkb
    have d1 : (p % 2 == 0) = false := beq_eq_false_iff_ne.mpr hpar
    have HKB := Aside0.mk hkb
    have HPAR := Aside0.mk hpar
    clear hpar hkb
    go_enter Try.func26, Try.ntmps26
    go_wp2_with (first
      | ((with_reducible refine gate_builtin (b := .append) (xs := #[.tmp 10, .tmp 11]) rfl ?_); at_builtin; refine Kd.R_append_rows (Kd.int .u8) (w0 := w) w.heap.size rfl (.tmp 10) (.tmp 11) 23 5 (.int .u8 0) 1 rfl Try.underlying23 info5 rfl (by decide) (by omega) (.slice none 0 0) ([] : List Int) key _ _ _ (fun _ => True) (fun _ => False) rfl rfl ?aO ?aR (fun _ _ h => h) (fun _ h => h.elim) ?aF (Below.refl _ _) ?aS ?aL ?_; (case aR => exact HR1.out); (case aF => exact (fun _ _ => trivial)); (case aO => exact Kd.R_nil _ _ _ _ (fun _ => True)); (case aS => exact Nat.le_refl _); (case aL => have := HLN.out; simp; omega); intro v1 w1 ho hb hg hat; have HO1 := Aside0.mk ho; have HB1 := Aside0.mk hb; clear ho hb hg hat)
      | ((with_reducible refine gate_builtin (b := .append) (xs := #[.tmp 13, .tmp 14]) rfl ?_); at_builtin; refine Kd.R_append (Kd.int .u8) (w0 := w) w.heap.size rfl (.tmp 13) (.tmp 14) 23 5 (.int .u8 0) 1 rfl Try.underlying23 info5 rfl (by decide) (by omega) v1 ([] ++ key) 1 [.int .u8 1] (fun _ => True) (fun _ => False) rfl rfl ?aP (fun _ hk => hk.elim) ?aF ?aO ?aB ?aS ?aL ?_; (case aP => exact rfl); (case aF => exact (fun _ _ => trivial)); (case aO => exact HO1.out); (case aB => exact HB1.out); (case aS => exact HB1.out.size); (case aL => have := HLN.out; simp; omega); intro v2 w2 ho hb hg hat; rw [show (([] : List Int) ++ key) ++ [1] = X from HX.out] at ho; obtain ⟨A2, c2, rfl, hl2, hC2⟩ := Kd.R_reads ho; have HC2 := Aside0.mk hC2; have HL2 := Aside0.mk hl2; have HB2 := Aside0.mk hb; clear ho hb hg hat hl2 hC2)
      | ((with_reducible refine gate_callee (f := 30) rfl ?_); refine goesL_ (some 17) rfl rfl Try.func30 (by kernel_rfl) rfl #[.slice A0 key.length c0] rfl (by (try simp only [List.map_toArray, List.map_cons, List.map_nil]); first | done | rfl | (simp only [List.length_drop, List.length_take]; rfl)) ?_; refine (rickyardref05_Sum.calls A0 c0 key _ _ ?s1 ?s2 (rSum_f key)).mono ?_; (case s1 => exact Kd.C_below HR1.out HB2.out); (case s2 => exact HC.out); rintro e w3 ⟨rfl, hd⟩; have HB3 := Aside0.mk (HB2.out.trans (hd.below.mono HB2.out.size)); have HC3 := Aside0.mk (Kd.C_below HC2.out hd.below); clear hd; refine ⟨_, rfl, ?_⟩; rw [HQ.out])
      | ((with_reducible refine gate_callee (f := 30) rfl ?_); refine goesL_ (some 19) rfl rfl Try.func30 (by kernel_rfl) rfl #[.slice A2 X.length c2] rfl (by (try simp only [List.map_toArray, List.map_cons, List.map_nil]); first | done | rfl | (simp only [List.length_drop, List.length_take]; rfl)) ?_; refine (rickyardref05_Sum.calls A2 c2 X _ _ ?s1 ?s2 (rSum_f X)).mono ?_; (case s1 => exact HC3.out); (case s2 => exact HL2.out); rintro e w4 ⟨rfl, hd⟩; have hb4 := HB3.out.trans (hd.below.mono HB3.out.size); have hcell := (HF.out.below hb4).bits; have HB4 := Aside0.mk hb4; clear hd hb4; refine ⟨_, rfl, ?_⟩; rw [HP.out]))
    go_ret
    have e1 : aAt (kB key) i (kA key) = (q + (i : Int) * p) % 4294967296 := by rw [aAt_closed _ _ (kA_range key), HQ.out, HKB.out]
    rw [e1]
    have hd1 := HD.out
    have hd2 := HD2.out
    have t0 := Int.emod_nonneg ((q + (i : Int) * p) % 4294967296) (show (D.length : Int) ≠ 0 by omega)
    have t1 := Int.emod_lt_of_pos ((q + (i : Int) * p) % 4294967296) (show 0 < (D.length : Int) by omega)
    refine ⟨?_, HB4.out⟩
    have e2 : ∀ z : Int, 0 ≤ z → z < (D.length : Int) → wrap64 z = z := fun z h1 h2 => by unfold wrap64; omega
    show Ending.returned (Value.int .i64 (wrap64 ((q + (i : Int) * p) % 4294967296 % (D.length : Int)))) = _
    rw [e2 _ t0 t1]

set_option maxHeartbeats 4000000 in
set_option maxRecDepth 100000 in
theorem rmay2_calls (g d cp n : Nat) (h : Int) (l : List Int) (A0 : Option Addr) (c0 : Nat) (key : List Int) (w : World) (hF : RFltC w g d cp h (RD n l)) (hh : 1 ≤ h) (hh2 : h ≤ 8) (hn : 1 ≤ n) (hn2 : n ≤ 8192) (hl : l.length = n)
    (hr : Kd.C (Kd.int .u8) w A0 key.length key) (hc0 : key.length ≤ c0) (hlen : key.length ≤ 100000) :
    Calls Try.prog 17 #[ptr g, .slice A0 key.length c0] w fun e w' => e = .returned (.bool (mayS l (plcK n h key))) ∧ Below w.heap.size w w' := by
  have HF := Aside0.mk hF
  have HH := Aside0.mk hh
  have HH2 := Aside0.mk hh2
  have HN := Aside0.mk hn
  have HN2 := Aside0.mk hn2
  have HL := Aside0.mk hl
  have HR := Aside0.mk hr
  have HC := Aside0.mk hc0
  have HLN := Aside0.mk hlen
  clear hF hh hh2 hn hn2 hl hr hc0 hlen
  go_enter Try.func17, Try.ntmps17
  go_wp2
  go_loopg [5, 6] (h.toNat) (fun kq v5 v6 w' => ∃ (i : Nat) (bb : Bool), v5 = .bool bb ∧ v6 = .int .i64 i ∧ Aside0 (bb = mayS l (plc (8 * n) (kB key) i (kA key))) ∧ Aside0 ((i : Int) ≤ h ∧ kq = h.toNat - i) ∧ Aside0 (RFltC w' g d cp h (RD n l) ∧ Below w.heap.size w w'))
  case atStart => exact ⟨0, true, rfl, rfl, ⟨rfl⟩, ⟨by have := HH.out; omega, rfl⟩, ⟨HF.out, Below.refl _ _⟩⟩
  case round =>
    obtain ⟨i, bb, rfl, rfl, HBB, hik, HI⟩ := hrel
    have hhash := HI.out.1.hashes
    by_cases hlt : (i : Int) < h
    · have d1 : decide ((i : Int) < h) = true := decide_eq_true hlt
      have hwr : wrap64 ((i : Int) + 1) = ((i + 1 : Nat) : Int) := by have := HH2.out; unfold wrap64; omega
      have HLT := Aside0.mk hlt
      have HHASH := Aside0.mk hhash
      obtain ⟨m, hm⟩ : ∃ m, 8 * n = m := ⟨_, rfl⟩
      have hfl := HI.out.1
      obtain ⟨p, hp⟩ : ∃ p, aAt (kB key) i (kA key) % (m : Int) = p := ⟨_, rfl⟩
      have hp0 : 0 ≤ p ∧ p < (m : Int) := by
        have := HN.out
        rw [← hp]
        exact ⟨Int.emod_nonneg _ (by omega), Int.emod_lt_of_pos _ (by omega)⟩
      obtain ⟨x, rfl⟩ : ∃ x : Nat, p = x := ⟨p.toNat, by omega⟩
      have hx : x < m := by omega
      have hDl : (RD n l).length = m := by rw [RD_length, hm]
      have hbits := hfl.bits
      rw [hDl] at hbits
      have i1 : (0 ≤ (x : Int)) = True := eq_true (by omega)
      have i2 : ((x : Int) < (m : Int)) = True := eq_true (by omega)
      have i3 : (x < m) = True := eq_true hx
      have HFL := Aside0.mk hfl
      have HXM := Aside0.mk hx
      have HDL := Aside0.mk hDl
      have hpl : ∀ W, RFltC W g d cp h (RD n l) → Kd.C (Kd.int .u8) W A0 key.length key → Calls Try.prog 26 #[ptr g, .slice A0 key.length c0, .int .i64 i] W fun e w' => e = .returned (.int .i64 x) ∧ Below W.heap.size W w' := fun W hF hC => by
        have h_ := place2_calls g d cp h (RD n l) A0 c0 key i W hF (by rw [hDl]; omega) (by rw [hDl]; have := HN2.out; omega) (by have := HH2.out; omega) hC HC.out HLN.out
        rw [hDl, hp] at h_; exact h_
      have HPL := Aside0.mk hpl
      have hrd : Kd.C (Kd.int .u8) wr.drew A0 key.length key := Kd.C_below HR.out HI.out.2.drew
      have HRD := Aside0.mk hrd
      have HW := Aside0.mk (show Below wr.heap.size wr wr.drew from (Below.refl _ _).drew)
      have hb0 : wr.drew.cell? ⟨g, 0, none⟩ = some (.slice (some ⟨d, 0, none⟩) m cp) := hbits
      obtain ⟨v, hv⟩ : ∃ v, (RD n l).getD x false = v := ⟨_, rfl⟩
      have hb2 : wr.drew.cell? ⟨d, x, none⟩ = some (.bool v) := by have h_ := (hfl.below (Below.refl wr.heap.size wr).drew).at_ (i := x) (by rw [hDl]; exact hx); rwa [hv] at h_
      have HVB := Aside0.mk (show v = bitAt l (x : Int) by rw [← hv]; exact RD_getD n l (by rw [hm]; exact hx))
      have HV := Aside0.mk hv
      have HB0 := Aside0.mk (And.intro hb0 hb2)
      have HMM := Aside0.mk hm
      have HPP := Aside0.mk hp
      clear hlt hm hfl hp hp0 hx hDl hpl hrd hb0 hb2 hv hbits
      cases bb with
      | true =>
        go_wp2
        go_region_held3 (fun W' => W'.cell? ⟨g, 0, none⟩ = some (.slice (some ⟨d, 0, none⟩) m cp) ∧ W'.cell? ⟨d, x, none⟩ = some (.bool v)) (first | (with_reducible exact HB0.out) | (with_reducible exact HB1.out))
          (first
            | (go_at_call 26; refine (HPL.out _ (HFL.out.below (Below.refl _ _).drew) HRD.out).mono ?_; rintro e w1 ⟨rfl, hb⟩; have hbw : Below wr.heap.size wr w1 := ⟨hb.os, hb.tape, hb.output, hb.size, hb.block⟩; have hf1 := HFL.out.below hbw; have HF1 := Aside0.mk hf1; have HB1 := Aside0.mk (show w1.cell? ⟨g, 0, none⟩ = some (.slice (some ⟨d, 0, none⟩) m cp) ∧ w1.cell? ⟨d, x, none⟩ = some (.bool v) from (by have h_ := hf1.bits; rw [HDL.out] at h_; have h2_ := hf1.at_ (i := x) (by rw [HDL.out]; exact HXM.out); rw [HV.out] at h2_; exact ⟨h_, h2_⟩)); have HBW := Aside0.mk hbw; clear hb hbw hf1))
        all_goals
          go_wp2
          go_roundg (h.toNat - (i + 1))
          case measure => have := hik.out.2; have := HLT.out; omega
          case rel =>
            refine ⟨i + 1, _, rfl, by rw [hwr], ⟨?_⟩, ⟨by have := HLT.out; omega, rfl⟩, ⟨HF1.out, HI.out.2.trans (HBW.out.mono HI.out.2.size)⟩⟩
            rw [mayS_snoc, ← HBB.out, show (8 * (n : Int)) = (m : Int) by have := HMM.out; omega, HPP.out, Bool.true_and, ← HVB.out]
      | false =>
        go_wp2
        go_region
        all_goals
          go_wp2
          go_roundg (h.toNat - (i + 1))
          case measure => have := hik.out.2; have := HLT.out; omega
          case rel =>
            refine ⟨i + 1, _, rfl, by rw [hwr], ⟨?_⟩, ⟨by have := HLT.out; omega, rfl⟩, ⟨HI.out.1.below (Below.refl _ _).drew, HI.out.2.drew⟩⟩
            rw [mayS_snoc, ← HBB.out]; rfl
    · have d1 : decide ((i : Int) < h) = false := decide_eq_false hlt
      have HI2 := Aside0.mk (show i = h.toNat by have := hik.out.1; omega)
      clear hlt
      go_wp2
      go_ret
      refine ⟨?_, HI.out.2⟩
      rw [plcK, ← HI2.out, ← HBB.out]
      rfl

end Go.Proofs.Ytliafeandefocaa.P

namespace Go.Proofs.Ytliafeandefocaa.P
open Go.RowKit Go.Proofs.YtliafeandefocaaW.PrintWords Go.Proofs.YtliafeandefocaaW.PrintLast Go.Proofs.YtliafeandefocaaW.PrintMore
set_option linter.unusedVariables false
set_option linter.unusedSimpArgs false

/-- The digits after i bytes and k digits of the next one. -/
theorem RD_take (n : Nat) (l : List Int) (hl : l.length = n) (i : Nat) (hi : i < n) (v : Nat) (hv : l.getD i 0 = (v : Int)) (h256 : v < 256) (k : Nat) (hk : k < 8) : (RD n l).take (8 * i + (k + 1)) = (RD n l).take (8 * i + k) ++ [decide ((v / 2 ^ k) % 2 = 1)] := by
  rw [← Nat.add_assoc, List.take_add_one]
  congr 1
  have h1 : 8 * i + k < (RD n l).length := by rw [RD_length]; omega
  rw [List.getElem?_eq_getElem h1]
  have h2 := RD_getD n l (j := 8 * i + k) (by omega)
  rw [List.getD_eq_getElem?_getD, List.getElem?_eq_getElem h1] at h2
  simp only [Option.getD_some] at h2
  rw [h2, bitAt, show ((((8 * i + k : Nat) : Int)) / 8).toNat = i by omega, show ((((8 * i + k : Nat) : Int)) % 8).toNat = k by omega, hv, Int.toNat_natCast, Nat.testBit_eq_decide_div_mod_eq]
  rfl
set_option maxHeartbeats 4000000 in
set_option maxRecDepth 100000 in
theorem rread_ok (A0 : Option Addr) (c0 : Nat) (l : List Int) (w : World) (hr : Kd.C (Kd.int .u8) w A0 l.length l) (hc0 : l.length ≤ c0) (hB : IsB l) (hok : okRead l) :
    Calls Try.prog 21 #[.slice A0 l.length c0] w fun e w' => ∃ g d cp, e = .returned (.tuple #[ptr g, .int .i64 0]) ∧ RFltC w' g d cp (l.getD 0 0) (RD (l.length - 1) (l.drop 1)) ∧ Below w.heap.size w w' := by
  have HR := Aside0.mk hr
  have HC := Aside0.mk hc0
  have HBY := Aside0.mk hB
  have HOK := Aside0.mk hok
  obtain ⟨k1, k2, k3, k4⟩ := hok
  have d1 : decide ((l.length : Int) < 2) = false := decide_eq_false (by omega)
  have d2 : decide (8193 < (l.length : Int)) = false := decide_eq_false (by omega)
  have d1b : decide (l.length < 2) = false := decide_eq_false (by omega)
  have d2b : decide (8193 < l.length) = false := decide_eq_false (by omega)
  have i1 : (0 < l.length) = True := eq_true (by omega)
  have i2 : ((0 : Int) < (l.length : Int)) = True := eq_true (by omega)
  obtain ⟨ad, hA, hcell⟩ := (Kd.reads_of_C hr).2.2 (by omega)
  subst hA
  have hz := hcell 0 (by omega)
  have ead : ad.add 0 = ad := by simp [Addr.add]
  rw [ead] at hz
  have hz' : w.cell? ad = some (.int .u8 (l.getD 0 0)) := hz
  obtain ⟨x, hx⟩ : ∃ x, l.getD 0 0 = x := ⟨_, rfl⟩
  rw [hx] at hz' k3 k4 ⊢
  have d3 : (x == 0) = false := beq_eq_false_iff_ne.mpr (by omega)
  have d4 : decide (8 < x) = false := decide_eq_false (by omega)
  have w9 : wrap64 x = x := by unfold wrap64; omega
  obtain ⟨n, hn⟩ : ∃ n, l.length - 1 = n := ⟨_, rfl⟩
  obtain ⟨m, hm⟩ : ∃ m, l.drop 1 = m := ⟨_, rfl⟩
  have hml : m.length = n := by rw [← hm, List.length_drop, hn]
  have hget : ∀ j, m.getD j 0 = l.getD (1 + j) 0 := fun j => by rw [← hm, List.getD_eq_getElem?_getD, List.getD_eq_getElem?_getD, List.getElem?_drop]
  rw [hn, hm]
  have HN := Aside0.mk (show l.length = n + 1 ∧ 1 ≤ n ∧ n ≤ 8192 by omega)
  have HML := Aside0.mk hml
  have HGET := Aside0.mk hget
  have HX := Aside0.mk hx
  have HCL := Aside0.mk hcell
  obtain ⟨D, hD⟩ : ∃ D, RD n m = D := ⟨_, rfl⟩
  have HD := Aside0.mk hD
  have HDL := Aside0.mk (show D.length = 8 * n by rw [← hD, RD_length])
  rw [hD]
  have HNE := Aside0.mk (show ∀ q, q ∈ 4 :: Kd.bool.E → q ≠ 57 by decide)
  clear hr hc0 hB hcell hz hx hn hm hml hget k1 k2 k3 k4 hD
  go_enter Try.func21, Try.ntmps21
  go_wp2
  obtain ⟨g, hg⟩ : ∃ g, w.heap.size = g := ⟨_, rfl⟩
  have HGE := Aside0.mk hg
  have B0 := Aside0.mk (World.alloc_heap_new w (.cells #[.slice none 0 0, .int .i64 x] 57))
  have HB1 := Aside0.mk ((Below.refl w.heap.size w).alloc (Nat.le_refl _) (.cells #[.slice none 0 0, .int .i64 x] 57))
  rw [hg] at B0
  rw [hg]
  clear hg
  rw [w9]
  go_loopg [5] n (fun kq v5 w' => ∃ (i : Nat) (v : Value), v5 = .int .i64 ((i + 1 : Nat) : Int) ∧ Aside0 (i ≤ n ∧ kq = n - i) ∧ Aside0 (Kd.R Kd.bool 4 w' w.heap.size (fun _ => True) v (D.take (8 * i))) ∧ Aside0 (w'.heap[g]? = some (.cells #[v, .int .i64 x] 57 (0, 0))) ∧ Aside0 (Below w.heap.size w w'))
  case atStart => exact ⟨0, _, rfl, ⟨Nat.zero_le _, rfl⟩, ⟨Kd.R_nil _ _ _ _ _⟩, B0, HB1⟩
  case round =>
    obtain ⟨i, v, rfl, HI, HO, BG, HB⟩ := hrel
    by_cases hlt : i < n
    · have hn := HN.out
      obtain ⟨y, hy⟩ : ∃ y, l.getD (1 + i) 0 = y := ⟨_, rfl⟩
      have hyb := HBY.out y (by rw [← hy, List.getD_eq_getElem?_getD, List.getElem?_eq_getElem (by omega)]; exact List.getElem_mem (by omega))
      obtain ⟨u, rfl⟩ : ∃ u : Nat, y = u := ⟨y.toNat, by omega⟩
      have hu : u < 256 := by omega
      have hcu : wr.cell? ⟨ad.block, ad.off + (i + 1), none⟩ = some (.int .u8 (u : Int)) := by
        rw [show (⟨ad.block, ad.off + (i + 1), none⟩ : Addr) = ad.add (i + 1) by simp [Addr.add]]
        have h_ := HCL.out (i + 1) (by omega)
        have e_ : rdOf (0 : Int) l ((i + 1 : Nat) : Int) = (u : Int) := by unfold rdOf; rw [Int.toNat_natCast, Nat.add_comm i 1, hy]
        first
          | rw [e_] at h_
          | rw [show l.getD (i + 1) 0 = (u : Int) by rw [Nat.add_comm, hy]] at h_
        exact (World.cell?_of_block (HB.out.block _ (block_of_cell h_))).trans h_
      obtain ⟨I, hI⟩ : ∃ I : Int, ((i + 1 : Nat) : Int) = I := ⟨_, rfl⟩
      have c1 : decide (I < (l.length : Int)) = true := decide_eq_true (by omega)
      have c2 : (0 ≤ I) = True := eq_true (by omega)
      have c3 : (I < (l.length : Int)) = True := eq_true (by omega)
      have c4 : I.toNat = i + 1 := by omega
      have c5 : wrap64 (u : Int) = (u : Int) := by unfold wrap64; omega
      have c6 : wrap64 (I + 1) = ((i + 1 + 1 : Nat) : Int) := by unfold wrap64; omega
      have HLT := Aside0.mk hlt
      have HU := Aside0.mk hu
      have HUV := Aside0.mk (show m.getD i 0 = (u : Int) by rw [HGET.out, hy])
      rw [hI]
      clear hn hy hyb hu hlt hI
      obtain ⟨wo, rfl⟩ : ∃ wo : World, wo = wr := ⟨_, rfl⟩
      go_wp2
      rw [c5]
      go_loopg [6, 7] 8 (fun kq v6 v7 w' => ∃ (k : Nat) (v : Value), v6 = .int .i64 ((u / 2 ^ k : Nat) : Int) ∧ v7 = .int .i64 (k : Int) ∧ Aside0 (k ≤ 8 ∧ kq = 8 - k) ∧ Aside0 (Kd.R Kd.bool 4 w' w.heap.size (fun _ => True) v (D.take (8 * i + k))) ∧ Aside0 (w'.heap[g]? = some (.cells #[v, .int .i64 x] 57 (0, 0))) ∧ Aside0 (Below w.heap.size w w'))
      case atStart => exact ⟨0, v, by rw [Nat.pow_zero, Nat.div_one], rfl, ⟨by decide, rfl⟩, HO, BG, HB⟩
      case round =>
        clear HO BG HB
        obtain ⟨k, v, rfl, rfl, HK, HO, BG, HB⟩ := hrel
        by_cases hk : k < 8
        · obtain ⟨q, hq⟩ : ∃ q : Nat, u / 2 ^ k = q := ⟨_, rfl⟩
          obtain ⟨q2, hq2⟩ : ∃ q2 : Nat, u / 2 ^ (k + 1) = q2 := ⟨_, rfl⟩
          have hqq : q2 = q / 2 := by rw [← hq2, ← hq, Nat.pow_succ, Nat.div_div_eq_div_mul]
          have hqu : q ≤ u := by rw [← hq]; exact Nat.div_le_self _ _
          have HQ := Aside0.mk (And.intro hq hq2)
          rw [hq]
          clear hq hq2
          obtain ⟨z, hz⟩ : ∃ z : Int, (q : Int) = z := ⟨_, rfl⟩
          obtain ⟨z2, hz2⟩ : ∃ z : Int, (q2 : Int) = z := ⟨_, rfl⟩
          obtain ⟨bb, hbb⟩ : ∃ bb : Bool, decide (q % 2 = 1) = bb := ⟨_, rfl⟩
          have hz0 : 0 ≤ z := by omega
          have e1 : z.tmod 2 = z % 2 := Int.tmod_eq_emod_of_nonneg hz0
          have e2 : z.tdiv 2 = z2 := by rw [Int.tdiv_eq_ediv_of_nonneg hz0]; omega
          have e3 : (z % 2 == 1) = bb := by
            rw [← hbb]
            have : (z % 2 = 1) ↔ (q % 2 = 1) := by omega
            by_cases h : z % 2 = 1
            · rw [decide_eq_true (this.1 h)]; exact beq_iff_eq.2 h
            · rw [decide_eq_false (fun h2 => h (this.2 h2))]; exact beq_eq_false_iff_ne.2 h
          have e4 : wrap64 z2 = z2 := by have := HU.out; unfold wrap64; omega
          have HZ2 := Aside0.mk (show z2 = ((u / 2 ^ (k + 1) : Nat) : Int) by rw [HQ.out.2, hz2])
          have d1 : decide ((k : Int) < 8) = true := decide_eq_true (by omega)
          have w3 : wrap64 ((k : Int) + 1) = ((k + 1 : Nat) : Int) := by unfold wrap64; omega
          have hca : wr.cell? ⟨g, 0, none⟩ = some v := by simp [World.cell?, BG.out]
          have HK8 := Aside0.mk hk
          have HTK := Aside0.mk (show D.take (8 * i + (k + 1)) = D.take (8 * i + k) ++ [bb] by rw [← HD.out, ← hbb, ← HQ.out.1]; exact RD_take n m HML.out i HLT.out u HUV.out HU.out k hk)
          have HTL := Aside0.mk (show (D.take (8 * i + k)).length ≤ 70000 from Nat.le_trans (List.length_take_le' _ _) (by rw [HDL.out]; exact Nat.le_trans (Nat.mul_le_mul_left 8 HN.out.2.2) (by decide)))
          rw [hz]
          clear hz hbb hz0 hk hz2 hqq hqu
          go_wp2_with (first
            | ((with_reducible refine gate_builtin (b := .append) (xs := #[.tmp 53, .tmp 57]) rfl ?_); at_builtin; refine Kd.R_append Kd.bool (w0 := w) w.heap.size rfl (.tmp 53) (.tmp 57) 55 4 (.bool false) 1 rfl Try.underlying55 info_bool rfl (by decide) (by omega) v (D.take (8 * i + k)) bb [.bool bb] (fun _ => True) (fun _ => False) rfl rfl ?hp (fun _ h => h.elim) (fun _ _ => trivial) ?HO ?HB ?hb ?hl ?_; (case hp => rfl); (case HO => exact HO.out); (case HB => exact HB.out); (case hb => exact HB.out.size); (case hl => exact Nat.le_trans (Nat.mul_le_mul_right 1 (Nat.succ_le_succ HTL.out)) (by decide)); intro v1 w1 ho hb hgr hat; obtain ⟨A1, c1_, rfl⟩ := Kd.R_slice ho; have hbg := blk_grown BG.out hgr (Kd.R_ne HO.out BG.out (by decide)); have hca1 : w1.cell? ⟨g, 0, none⟩ = some v := (by simp [World.cell?, hbg]); have hfz1 : w1.frozen? ⟨g, 0, none⟩ = false := (by simp [World.frozen?, hbg]); have HO1 := Aside0.mk ho; have HB1 := Aside0.mk hb; have BG1 := Aside0.mk hbg; clear ho hb hgr hat hbg))
          go_roundg (8 - (k + 1))
          case measure => have := HK.out.2; have := HK8.out; omega
          case rel =>
            refine ⟨k + 1, _, by rw [e4, HZ2.out], by rw [w3], ⟨HK8.out, rfl⟩, ⟨by rw [HTK.out]; exact Kd.R_set HO1.out BG1.out HNE.out 0 _⟩, ⟨?_⟩, ⟨?_⟩⟩
            · refine blk_put BG1.out 0 _ ?_
              rw [List.length_append, List.length_take]; rfl
            · exact below_set HB1.out (by have := HGE.out; omega)
        · have hk8 : k = 8 := by have := HK.out.1; omega
          have d1 : decide ((k : Int) < 8) = false := decide_eq_false (by omega)
          have HK8 := Aside0.mk hk8
          clear hk hk8
          go_wp2
          go_roundg (n - (i + 1))
          case measure => have := HI.out.2; have := HLT.out; omega
          case rel => exact ⟨i + 1, v, by rw [c6], ⟨HLT.out, rfl⟩, ⟨by have h_ := HO.out; rw [HK8.out] at h_; exact h_⟩, BG, HB⟩
    · have hin : i = n := by have := HI.out.1; omega
      have hn := HN.out
      obtain ⟨I, hI⟩ : ∃ I : Int, ((i + 1 : Nat) : Int) = I := ⟨_, rfl⟩
      have c1 : decide (I < (l.length : Int)) = false := decide_eq_false (by omega)
      have hO := HO.out
      rw [hin, ← HDL.out, List.take_length] at hO
      have hpos : 0 < D.length := by rw [HDL.out]; omega
      have HO1 := Aside0.mk hO
      have HP := Aside0.mk hpos
      rw [hI]
      clear hlt hin hn hI hO hpos
      go_wp2
      refine bodyPost_ret (results_tmp2 rfl _ _ _) rfl ?_
      obtain ⟨d, cap, hv, hge, hlt2, cells, hcells⟩ := Kd.R_form HO1.out HP.out
      subst hv
      refine ⟨g, d, cap, rfl, ⟨BG.out, cells, hcells, fun j hj => ?_⟩, HB.out⟩
      obtain ⟨_, _, hC⟩ := Kd.R_reads' HO1.out
      obtain ⟨ad2, e2, hcell⟩ := (Kd.reads_of_C (d := false) hC).2.2 HP.out
      cases e2
      have h_ := hcell j hj
      rw [show (⟨d, 0, none⟩ : Addr).add j = ⟨d, j, none⟩ by simp [Addr.add, eq_comm]] at h_
      simp only [World.cell?, hcells] at h_
      simpa using h_

end Go.Proofs.Ytliafeandefocaa.P

namespace Go.Proofs.Ytliafeandefocaa.P
open Go.RowKit Go.Proofs.YtliafeandefocaaW.PrintWords Go.Proofs.YtliafeandefocaaW.PrintLast Go.Proofs.YtliafeandefocaaW.PrintMore
set_option linter.unusedVariables false
set_option linter.unusedSimpArgs false

theorem cell_below2 {w C : World} {a : Addr} {v : Value} (h : w.cell? a = some v) (hb : Below w.heap.size w C) : C.cell? a = some v := (World.cell?_of_block (hb.block _ (block_of_cell h))).trans h

theorem rread_bad (A0 : Option Addr) (c0 : Nat) (l : List Int) (w : World) (hr : Kd.C (Kd.int .u8) w A0 l.length l) (hc0 : l.length ≤ c0) (hB : IsB l) (hok : ¬ okRead l) :
    Calls Try.prog 21 #[.slice A0 l.length c0] w fun e w' => e = .returned (.tuple #[.pointer none, .int .i64 3]) ∧ Drawn0 w w' := by
  unfold okRead at hok
  by_cases c1 : l.length < 2
  · have d1 : decide ((l.length : Int) < 2) = true := decide_eq_true (by omega)
    have d1b : decide (l.length < 2) = true := decide_eq_true c1
    clear c1 hr hc0 hok hB
    go_enter Try.func21, Try.ntmps21
    go_wp2
    refine bodyPost_ret (results_tmp2 rfl _ _ _) rfl ?_
    exact ⟨rfl, Drawn0.refl _⟩
  have d1 : decide ((l.length : Int) < 2) = false := decide_eq_false (by omega)
  have d1b : decide (l.length < 2) = false := decide_eq_false c1
  by_cases c2 : 8193 < l.length
  · have d2 : decide (8193 < (l.length : Int)) = true := decide_eq_true (by omega)
    have d2b : decide (8193 < l.length) = true := decide_eq_true c2
    clear c1 c2 hr hc0 hok hB
    go_enter Try.func21, Try.ntmps21
    go_wp2
    refine bodyPost_ret (results_tmp2 rfl _ _ _) rfl ?_
    exact ⟨rfl, Drawn0.refl _⟩
  have d2 : decide (8193 < (l.length : Int)) = false := decide_eq_false (by omega)
  have d2b : decide (8193 < l.length) = false := decide_eq_false c2
  have i1 : (0 < l.length) = True := eq_true (by omega)
  have i2 : ((0 : Int) < (l.length : Int)) = True := eq_true (by omega)
  obtain ⟨ad, hA, hcell⟩ := (Kd.reads_of_C hr).2.2 (by omega)
  subst hA
  have hz := hcell 0 (by omega)
  have ead : ad.add 0 = ad := by simp [Addr.add]
  rw [ead] at hz
  have hz' : w.cell? ad = some (.int .u8 (l.getD 0 0)) := hz
  obtain ⟨x, hx⟩ : ∃ x, l.getD 0 0 = x := ⟨_, rfl⟩
  rw [hx] at hz' hok
  have hx0 : 0 ≤ x := by
    rw [← hx]
    by_cases hl0 : l.length = 0
    · omega
    · exact (hB _ (by rw [List.getD_eq_getElem?_getD, List.getElem?_eq_getElem (by omega)]; exact List.getElem_mem (by omega))).1
  by_cases c3 : x = 0
  · have d3 : (x == 0) = true := beq_iff_eq.mpr c3
    clear hx0
    clear c1 c2 c3 hr hc0 hok hcell hz hx ead hB
    go_enter Try.func21, Try.ntmps21
    go_wp2
    refine bodyPost_ret (results_tmp2 rfl _ _ _) rfl ?_
    exact ⟨rfl, Drawn0.refl _⟩
  have d3 : (x == 0) = false := beq_eq_false_iff_ne.mpr c3
  have c4 : 8 < x := by omega
  have d4 := decide_eq_true c4
  clear c1 c2 c3 c4 hr hc0 hok hcell hz hx ead hx0 hB
  go_enter Try.func21, Try.ntmps21
  go_wp2
  refine bodyPost_ret (results_tmp2 rfl _ _ _) rfl ?_
  exact ⟨rfl, Drawn0.refl _⟩

/-- How many digits are good: both say the same. -/
theorem fit_l0 (t : Int) (ht : t % 8 = 0) (ht8 : 8 ≤ t) (ht2 : t ≤ 100000) (d : Nat) : ∀ (k : Nat) (x : Int), 0 ≤ x → x + d = t → (∀ y : Int, x ≤ y → y < t → 0 < y % 8 ∨ y < 8) → rickyardref07_Fit.l0 (k + d + 1) x = some (t, 6, 0) := by
  induction d with
  | zero =>
    intro k x h0 h _
    obtain rfl : x = t := by omega
    rw [rickyardref07_Fit.l0, Int.tmod_eq_emod_of_nonneg h0, if_neg (by omega), if_neg (by omega)]
  | succ d ih =>
    intro k x h0 h hy
    have hn := ih k (x + 1) (by omega) (by omega) (fun y h1 h2 => hy y (by omega) h2)
    have hw : wrap64 (x + 1) = x + 1 := by unfold wrap64; omega
    rw [show k + (d + 1) + 1 = (k + d + 1) + 1 from rfl, rickyardref07_Fit.l0, Int.tmod_eq_emod_of_nonneg h0, hw]
    rcases hy x (Int.le_refl _) (by omega) with h1 | h1
    · rw [if_pos h1]; exact hn
    · by_cases h2 : x % 8 > 0
      · rw [if_pos h2]; exact hn
      · rw [if_neg h2, if_pos h1]; exact hn
theorem fit_same (a : Int) (h0 : -9223372036854775808 ≤ a) (h1 : a < 9223372036854775808) : ∃ n k e, bloom_Fit.f a = some (n, k, e) ∧ rickyardref07_Fit.f 20 a = some (n, k, e) := by
  unfold bloom_Fit.f rickyardref07_Fit.f
  by_cases c : a < 0
  · rw [if_pos c, if_pos c]; exact ⟨_, _, _, rfl, rfl⟩
  rw [if_neg c, if_neg c]
  refine ⟨_, _, _, rfl, ?_⟩
  by_cases c2 : a > 6553
  · rw [if_pos c2]
    have e : mn (mx (wrap64 (wrap64 ((wrap64 (wrap64 (mn a 65536 * 10) + 7)).tdiv 8) * 8)) 8) 65536 = 65536 := by
      have e1 : 6554 ≤ mn a 65536 ∧ mn a 65536 ≤ 65536 := by unfold mn; omega
      generalize mn a 65536 = x at e1
      have e2 : wrap64 (wrap64 (x * 10) + 7) = x * 10 + 7 := by unfold wrap64; omega
      rw [e2, Int.tdiv_eq_ediv_of_nonneg (by omega)]
      have e3 : wrap64 ((x * 10 + 7) / 8) = (x * 10 + 7) / 8 := by unfold wrap64; omega
      rw [e3]
      have e4 : wrap64 ((x * 10 + 7) / 8 * 8) = (x * 10 + 7) / 8 * 8 := by unfold wrap64; omega
      rw [e4]
      unfold mn mx; omega
    rw [e]
  · rw [if_neg c2]
    have e : mn (mx (wrap64 (wrap64 ((wrap64 (wrap64 (mn a 65536 * 10) + 7)).tdiv 8) * 8)) 8) 65536 = if a = 0 then 8 else (a * 10 + 7) / 8 * 8 := by
      have e1 : mn a 65536 = a := by unfold mn; omega
      rw [e1]
      have e2 : wrap64 (wrap64 (a * 10) + 7) = a * 10 + 7 := by unfold wrap64; omega
      rw [e2, Int.tdiv_eq_ediv_of_nonneg (by omega)]
      have e3 : wrap64 ((a * 10 + 7) / 8) = (a * 10 + 7) / 8 := by unfold wrap64; omega
      rw [e3]
      have e4 : wrap64 ((a * 10 + 7) / 8 * 8) = (a * 10 + 7) / 8 * 8 := by unfold wrap64; omega
      rw [e4]
      unfold mn mx
      split <;> omega
    rw [e]
    have e5 : wrap64 (10 * a) = a * 10 := by unfold wrap64; omega
    rw [e5]
    by_cases c3 : a = 0
    · subst c3
      rw [if_pos rfl]
      exact fit_l0 8 (by decide) (by decide) (by decide) 8 11 0 (by decide) (by decide) (fun y _ h2 => .inr h2)
    · rw [if_neg c3]
      obtain ⟨d, hd⟩ : ∃ d : Nat, a * 10 + (d : Int) = (a * 10 + 7) / 8 * 8 := ⟨((a * 10 + 7) / 8 * 8 - a * 10).toNat, by omega⟩
      obtain ⟨k, hk⟩ : ∃ k, k + d + 1 = 20 := ⟨19 - d, by omega⟩
      rw [← hk]
      exact fit_l0 _ (by omega) (by omega) (by omega) d k (a * 10) (by omega) hd (fun y h2 h3 => .inl (by omega))

set_option maxHeartbeats 4000000 in
set_option maxRecDepth 100000 in
theorem reads_walk (A0 : Option Addr) (c0 : Nat) (l : List Int) (A1 : Option Addr) (c1 : Nat) (q : List (List Int)) (keys : Int) (w : World) (hr0 : Kd.C (Kd.int .u8) w A0 l.length l) (hc0 : l.length ≤ c0) (hB0 : ∀ x ∈ l, 0 ≤ x ∧ x < 256)
    (hr1 : Kd.C (Kd.slice 5 (Kd.int .u8)) w A1 q.length q) (hc1 : q.length ≤ c1) (hB1 : ∀ m ∈ q, IsB m) (hi : (Lit.int .i64 keys).wf = true) :
    Calls Try.prog 7 #[.slice A0 l.length c0, .slice A1 q.length c1, .int .i64 keys] w fun e w' => e = .returned (.bool true) ∧ Below w.heap.size w w' := by
  have HR0 := Aside0.mk hr0
  have HC0 := Aside0.mk hc0
  have HB0 := Aside0.mk hB0
  have HR1 := Aside0.mk hr1
  have HC1 := Aside0.mk hc1
  have hm := hr0.2.1
  obtain ⟨r, hrl, hlong⟩ := long_calls A1 c1 q
  have HLONG := Aside0.mk hlong
  have hkey : -9223372036854775808 ≤ keys ∧ keys < 9223372036854775808 := by
    simp [Lit.wf, IntKind.min, IntKind.max, IntKind.signed, IntKind.bits] at hi
    omega
  obtain ⟨fn, fk, fe, hf1, hf2⟩ := fit_same keys hkey.1 hkey.2
  have HF1 := Aside0.mk (fun W => bloom_Fit.calls keys fn fk fe W hf1)
  have HF2 := Aside0.mk (fun W => rickyardref07_Fit.calls 20 keys fn fk fe W hf2)
  clear hr0 hc0 hB0 hr1 hc1 hB1 hlong hi hkey hf1 hf2
  cases r with
  | true =>
    go_enter Try.func7, Try.ntmps7
    go_wp2_with (first | ((with_reducible refine gate_callee (f := 12) rfl ?_); refine goesL_ (some 35) rfl rfl Try.func12 (by kernel_rfl) rfl #[] rfl (by (try simp only [List.map_toArray, List.map_cons, List.map_nil]); first | done | rfl | (simp only [List.length_drop, List.length_take]; rfl)) ?_; refine (alive_calls _).mono ?_; rintro e wa ⟨rfl, hb⟩; have HBA := Aside0.mk (HB1.out.trans (hb.mono HB1.out.size)); clear hb; refine ⟨_, rfl, ?_⟩) | ((with_reducible refine gate_callee (f := 11) rfl ?_); refine goesL_ (some 19) rfl rfl Try.func11 (by kernel_rfl) rfl #[.slice A1 q.length c1] rfl (by (try simp only [List.map_toArray, List.map_cons, List.map_nil]); first | done | rfl | (simp only [List.length_drop, List.length_take]; rfl)) ?_; refine (HLONG.out _ HR1.out HC1.out).mono ?_; rintro e w1 ⟨rfl, hb⟩; have HB1 := Aside0.mk hb; clear hb; refine ⟨_, rfl, ?_⟩))
    go_ret
    exact ⟨rfl, HBA.out⟩
  | false =>
  have HLQ := Aside0.mk (hrl rfl)
  clear hrl
  by_cases g1 : 300 < l.length ∧ l.length < 8190
  · have d1 : decide (300 < (l.length : Int)) = true := decide_eq_true (by omega)
    have d2 : decide ((l.length : Int) < 8190) = true := decide_eq_true (by omega)
    have d1b : decide (300 < l.length) = true := decide_eq_true g1.1
    have d2b : decide (l.length < 8190) = true := decide_eq_true g1.2
    clear g1
    go_enter Try.func7, Try.ntmps7
    go_wp2_with (first | ((with_reducible refine gate_callee (f := 12) rfl ?_); refine goesL_ (some 35) rfl rfl Try.func12 (by kernel_rfl) rfl #[] rfl (by (try simp only [List.map_toArray, List.map_cons, List.map_nil]); first | done | rfl | (simp only [List.length_drop, List.length_take]; rfl)) ?_; refine (alive_calls _).mono ?_; rintro e wa ⟨rfl, hb⟩; have HBA := Aside0.mk (HB1.out.trans (hb.mono HB1.out.size)); clear hb; refine ⟨_, rfl, ?_⟩) | ((with_reducible refine gate_callee (f := 11) rfl ?_); refine goesL_ (some 19) rfl rfl Try.func11 (by kernel_rfl) rfl #[.slice A1 q.length c1] rfl (by (try simp only [List.map_toArray, List.map_cons, List.map_nil]); first | done | rfl | (simp only [List.length_drop, List.length_take]; rfl)) ?_; refine (HLONG.out _ HR1.out HC1.out).mono ?_; rintro e w1 ⟨rfl, hb⟩; have HB1 := Aside0.mk hb; clear hb; refine ⟨_, rfl, ?_⟩))
    go_ret
    exact ⟨rfl, HBA.out⟩
  by_cases g2 : 9000 < l.length
  · have d3 : decide (9000 < (l.length : Int)) = true := decide_eq_true (by omega)
    have d3b : decide (9000 < l.length) = true := decide_eq_true g2
    have d1 : decide (300 < (l.length : Int)) = true := decide_eq_true (by omega)
    have d2 : decide ((l.length : Int) < 8190) = false := decide_eq_false (by omega)
    have d1b : decide (300 < l.length) = true := decide_eq_true (by omega)
    have d2b : decide (l.length < 8190) = false := decide_eq_false (by omega)
    clear g1 g2
    go_enter Try.func7, Try.ntmps7
    go_wp2_with (first | ((with_reducible refine gate_callee (f := 12) rfl ?_); refine goesL_ (some 35) rfl rfl Try.func12 (by kernel_rfl) rfl #[] rfl (by (try simp only [List.map_toArray, List.map_cons, List.map_nil]); first | done | rfl | (simp only [List.length_drop, List.length_take]; rfl)) ?_; refine (alive_calls _).mono ?_; rintro e wa ⟨rfl, hb⟩; have HBA := Aside0.mk (HB1.out.trans (hb.mono HB1.out.size)); clear hb; refine ⟨_, rfl, ?_⟩) | ((with_reducible refine gate_callee (f := 11) rfl ?_); refine goesL_ (some 19) rfl rfl Try.func11 (by kernel_rfl) rfl #[.slice A1 q.length c1] rfl (by (try simp only [List.map_toArray, List.map_cons, List.map_nil]); first | done | rfl | (simp only [List.length_drop, List.length_take]; rfl)) ?_; refine (HLONG.out _ HR1.out HC1.out).mono ?_; rintro e w1 ⟨rfl, hb⟩; have HB1 := Aside0.mk hb; clear hb; refine ⟨_, rfl, ?_⟩))
    go_ret
    exact ⟨rfl, HBA.out⟩
  have d3 : decide (9000 < (l.length : Int)) = false := decide_eq_false (by omega)
  have d3b : decide (9000 < l.length) = false := decide_eq_false g2
  obtain ⟨b1, hb1⟩ : ∃ b1, decide (300 < (l.length : Int)) = b1 := ⟨_, rfl⟩
  obtain ⟨b2, hb2⟩ : ∃ b2, decide ((l.length : Int) < 8190) = b2 := ⟨_, rfl⟩
  have hb1b : decide (300 < l.length) = b1 := by rw [← hb1]; exact decide_eq_decide.2 (by omega)
  have hb2b : decide (l.length < 8190) = b2 := by rw [← hb2]; exact decide_eq_decide.2 (by omega)
  have hb12 : (b1 && b2) = false := by
    rw [← hb1, ← hb2]
    by_cases h : 300 < (l.length : Int)
    · rw [decide_eq_true h, Bool.true_and]; exact decide_eq_false (by omega)
    · rw [decide_eq_false h, Bool.false_and]
  clear g1 g2
  by_cases hok : okRead l
  case neg =>
    have hbr := fun W (hC : Kd.C (Kd.int .u8) W A0 l.length l) => read_bad A0 c0 l W hC HC0.out hok
    have hrr := fun W (hC : Kd.C (Kd.int .u8) W A0 l.length l) => rread_bad A0 c0 l W hC HC0.out HB0.out hok
    have HBR := Aside0.mk hbr
    have HRR := Aside0.mk hrr
    clear hok hbr hrr
    cases b1 <;> cases b2 <;> first | (exact absurd hb12 (by decide)) | skip
    all_goals
      clear hb12
      go_enter Try.func7, Try.ntmps7
      go_wp2_with (first
        | ((with_reducible refine gate_callee (f := 20) rfl ?_); refine goesL_ (some 38) rfl rfl Try.func20 (by kernel_rfl) rfl #[.slice A0 l.length c0] rfl (by (try simp only [List.map_toArray, List.map_cons, List.map_nil]); first | done | rfl | (simp only [List.length_drop, List.length_take]; rfl)) ?_; refine (HBR.out _ (Kd.C_below HR0.out HB1.out)).mono ?_; rintro e w3 ⟨rfl, hd⟩; have HB3 := Aside0.mk (HB1.out.trans (hd.below.mono HB1.out.size)); clear hd; refine ⟨_, rfl, ?_⟩)
        | ((with_reducible refine gate_callee (f := 21) rfl ?_); refine goesL_ (some 43) rfl rfl Try.func21 (by kernel_rfl) rfl #[.slice A0 l.length c0] rfl (by (try simp only [List.map_toArray, List.map_cons, List.map_nil]); first | done | rfl | (simp only [List.length_drop, List.length_take]; rfl)) ?_; refine (HRR.out _ (Kd.C_below HR0.out HB3.out)).mono ?_; rintro e w4 ⟨rfl, hd⟩; have HB4 := Aside0.mk (HB3.out.trans (hd.below.mono HB3.out.size)); clear hd; refine ⟨_, rfl, ?_⟩)
        | ((with_reducible refine gate_callee (f := 22) rfl ?_); refine goesL_ (some 48) rfl rfl Try.func22 (by kernel_rfl) rfl #[.int .i64 keys] rfl (by (try simp only [List.map_toArray, List.map_cons, List.map_nil]); first | done | rfl | (simp only [List.length_drop, List.length_take]; rfl)) ?_; refine (HF1.out _).mono ?_; rintro e w5 ⟨rfl, hb⟩; have HB5 := Aside0.mk hb; clear hb; refine ⟨_, rfl, ?_⟩) | ((with_reducible refine gate_callee (f := 23) rfl ?_); refine goesL_ (some 54) rfl rfl Try.func23 (by kernel_rfl) rfl #[.int .i64 keys] rfl (by (try simp only [List.map_toArray, List.map_cons, List.map_nil]); first | done | rfl | (simp only [List.length_drop, List.length_take]; rfl)) ?_; refine (HF2.out _).mono ?_; rintro e w6 ⟨rfl, hd⟩; have HB6 := Aside0.mk (show Below w4.heap.size w4 w6 from HB5.out.trans (hd.below.mono HB5.out.size)); clear hd; refine ⟨_, rfl, ?_⟩)
        | ((with_reducible refine gate_callee (f := 11) rfl ?_); refine goesL_ (some 19) rfl rfl Try.func11 (by kernel_rfl) rfl #[.slice A1 q.length c1] rfl (by (try simp only [List.map_toArray, List.map_cons, List.map_nil]); first | done | rfl | (simp only [List.length_drop, List.length_take]; rfl)) ?_; refine (HLONG.out _ HR1.out HC1.out).mono ?_; rintro e w1 ⟨rfl, hb⟩; have HB1 := Aside0.mk hb; clear hb; refine ⟨_, rfl, ?_⟩))
      go_loopg [17] 1 (fun kq v17 w' => ∃ i : Nat, v17 = .int .i64 i ∧ Aside0 (Below w.heap.size w w'))
      case atStart => exact ⟨0, rfl, ⟨HB4.out.trans (HB6.out.mono HB4.out.size)⟩⟩
      case round =>
        obtain ⟨i, rfl, HB⟩ := hrel
        by_cases hlt : i < q.length
        · have e1 : decide ((i : Int) < (q.length : Int)) = true := decide_eq_true (by omega)
          have e1b : decide (i < q.length) = true := decide_eq_true hlt
          clear hlt
          go_wp2_with (first | ((with_reducible refine gate_callee (f := 12) rfl ?_); refine goesL_ (some 106) rfl rfl Try.func12 (by kernel_rfl) rfl #[] rfl (by (try simp only [List.map_toArray, List.map_cons, List.map_nil]); first | done | rfl | (simp only [List.length_drop, List.length_take]; rfl)) ?_; refine (alive_calls _).mono ?_; rintro e wa ⟨rfl, hb⟩; have HBA := Aside0.mk (HB.out.trans (hb.mono HB.out.size)); clear hb; refine ⟨_, rfl, ?_⟩))
          go_ret
          exact ⟨rfl, HBA.out⟩
        · have e1 : decide ((i : Int) < (q.length : Int)) = false := decide_eq_false (by omega)
          have e1b : decide (i < q.length) = false := decide_eq_false hlt
          clear hlt
          go_wp2_with (first | ((with_reducible refine gate_callee (f := 12) rfl ?_); refine goesL_ (some 106) rfl rfl Try.func12 (by kernel_rfl) rfl #[] rfl (by (try simp only [List.map_toArray, List.map_cons, List.map_nil]); first | done | rfl | (simp only [List.length_drop, List.length_take]; rfl)) ?_; refine (alive_calls _).mono ?_; rintro e wa ⟨rfl, hb⟩; have HBA := Aside0.mk (HB.out.trans (hb.mono HB.out.size)); clear hb; refine ⟨_, rfl, ?_⟩))
          go_ret
          exact ⟨rfl, HBA.out⟩
  have hbr := fun W (hC : Kd.C (Kd.int .u8) W A0 l.length l) => read_ok A0 c0 l W hC HC0.out HB0.out hok
  have hrr := fun W (hC : Kd.C (Kd.int .u8) W A0 l.length l) => rread_ok A0 c0 l W hC HC0.out HB0.out hok
  obtain ⟨h, hh⟩ : ∃ h, l.getD 0 0 = h := ⟨_, rfl⟩
  obtain ⟨Z, hZ⟩ : ∃ Z, l.drop 1 = Z := ⟨_, rfl⟩
  obtain ⟨n, hn⟩ : ∃ n, l.length - 1 = n := ⟨_, rfl⟩
  have HH := Aside0.mk (show 1 ≤ h ∧ h ≤ 8 by rw [← hh]; exact hok.2.2)
  have HN := Aside0.mk (show 1 ≤ n ∧ n ≤ 8192 by have := hok.1; have := hok.2.1; omega)
  have HZL := Aside0.mk (show Z.length = n by rw [← hZ, List.length_drop, hn])
  have HZB := Aside0.mk (show IsB Z by rw [← hZ]; exact fun x hx => HB0.out x (List.mem_of_mem_drop hx))
  rw [hh, hZ] at hbr
  rw [hh, hZ, hn] at hrr
  have HBR := Aside0.mk hbr
  have HRR := Aside0.mk hrr
  clear hok hbr hrr hh hZ hn
  cases b1 <;> cases b2 <;> first | (exact absurd hb12 (by decide)) | skip
  all_goals
    clear hb12
    go_enter Try.func7, Try.ntmps7
    go_wp2_with (first
      | ((with_reducible refine gate_callee (f := 20) rfl ?_); refine goesL_ (some 38) rfl rfl Try.func20 (by kernel_rfl) rfl #[.slice A0 l.length c0] rfl (by (try simp only [List.map_toArray, List.map_cons, List.map_nil]); first | done | rfl | (simp only [List.length_drop, List.length_take]; rfl)) ?_; refine (HBR.out _ (Kd.C_below HR0.out HB1.out)).mono ?_; rintro e w3 ⟨g, b, rfl, hF, hb, _, _⟩; have HB3 := Aside0.mk (HB1.out.trans (hb.mono HB1.out.size)); have HF3 := Aside0.mk hF; clear hF hb; refine ⟨_, rfl, ?_⟩)
      | ((with_reducible refine gate_callee (f := 21) rfl ?_); refine goesL_ (some 43) rfl rfl Try.func21 (by kernel_rfl) rfl #[.slice A0 l.length c0] rfl (by (try simp only [List.map_toArray, List.map_cons, List.map_nil]); first | done | rfl | (simp only [List.length_drop, List.length_take]; rfl)) ?_; refine (HRR.out _ (Kd.C_below HR0.out HB3.out)).mono ?_; rintro e w4 ⟨rg, rd, cp, rfl, hX, hb⟩; have HB4 := Aside0.mk (HB3.out.trans (hb.mono HB3.out.size)); have HF4 := Aside0.mk (HF3.out.below hb); have HX4 := Aside0.mk hX; clear hX hb; refine ⟨_, rfl, ?_⟩)
      | ((with_reducible refine gate_callee (f := 22) rfl ?_); refine goesL_ (some 48) rfl rfl Try.func22 (by kernel_rfl) rfl #[.int .i64 keys] rfl (by (try simp only [List.map_toArray, List.map_cons, List.map_nil]); first | done | rfl | (simp only [List.length_drop, List.length_take]; rfl)) ?_; refine (HF1.out _).mono ?_; rintro e w5 ⟨rfl, hb⟩; have HB5 := Aside0.mk hb; clear hb; refine ⟨_, rfl, ?_⟩) | ((with_reducible refine gate_callee (f := 23) rfl ?_); refine goesL_ (some 54) rfl rfl Try.func23 (by kernel_rfl) rfl #[.int .i64 keys] rfl (by (try simp only [List.map_toArray, List.map_cons, List.map_nil]); first | done | rfl | (simp only [List.length_drop, List.length_take]; rfl)) ?_; refine (HF2.out _).mono ?_; rintro e w6 ⟨rfl, hd⟩; have HB6 := Aside0.mk (show Below w4.heap.size w4 w6 from HB5.out.trans (hd.below.mono HB5.out.size)); clear hd; refine ⟨_, rfl, ?_⟩)
      | ((with_reducible refine gate_callee (f := 11) rfl ?_); refine goesL_ (some 19) rfl rfl Try.func11 (by kernel_rfl) rfl #[.slice A1 q.length c1] rfl (by (try simp only [List.map_toArray, List.map_cons, List.map_nil]); first | done | rfl | (simp only [List.length_drop, List.length_take]; rfl)) ?_; refine (HLONG.out _ HR1.out HC1.out).mono ?_; rintro e w1 ⟨rfl, hb⟩; have HB1 := Aside0.mk hb; clear hb; refine ⟨_, rfl, ?_⟩))
    go_loopg [17] (q.length) (fun kq v17 w' => ∃ i : Nat, v17 = .int .i64 i ∧ Aside0 (i ≤ q.length ∧ kq = q.length - i) ∧ Aside0 (Flt w' g b h Z ∧ RFltC w' rg rd cp h (RD n Z) ∧ Below w.heap.size w w'))
    case atStart => exact ⟨0, rfl, ⟨Nat.zero_le _, rfl⟩, ⟨HF4.out.below HB6.out, HX4.out.below HB6.out, HB4.out.trans (HB6.out.mono HB4.out.size)⟩⟩
    case round =>
      obtain ⟨j, rfl, hjk, HJ⟩ := hrel
      by_cases hlt : j < q.length
      · obtain ⟨ad, A, c, key, eA, hkey, hcell0, hlc, hck⟩ := key_at HR1.out hlt
        cases eA
        have d1 : decide ((j : Int) < (q.length : Int)) = true := decide_eq_true (by omega)
        have d1b : decide (j < q.length) = true := decide_eq_true hlt
        have i1 : (0 ≤ (j : Int)) = True := eq_true (by omega)
        have i2 : ((j : Int) < (q.length : Int)) = True := eq_true (by omega)
        have i3 : (j < q.length) = True := eq_true hlt
        have hwr : wrap64 ((j : Int) + 1) = ((j + 1 : Nat) : Int) := by have := HLQ.out.1; unfold wrap64; omega
        have hkl : key.length ≤ 300 := by rw [← hkey, List.getD_eq_getElem?_getD, List.getElem?_eq_getElem hlt]; exact HLQ.out.2 _ (List.getElem_mem hlt)
        obtain ⟨vb, hvb⟩ : ∃ vb, mayS Z (plcK n h key) = vb := ⟨_, rfl⟩
        have m1 : ∀ W, Flt W g b h Z → Kd.C (Kd.int .u8) W A key.length key → Calls Try.prog 14 #[ptr g, .slice A key.length c] W fun e w' => e = .returned (.bool vb) ∧ Below W.heap.size W w' := fun W hF hC => by
          have h_ := may_calls g b h Z A c key W hF HH.out.1 (by have := HH.out.2; omega) (by rw [HZL.out]; exact HN.out.1) (by rw [HZL.out]; exact HN.out.2) HZB.out hC hlc
          rw [HZL.out, hvb] at h_; exact h_
        have m2 : ∀ W, RFltC W rg rd cp h (RD n Z) → Kd.C (Kd.int .u8) W A key.length key → Calls Try.prog 17 #[ptr rg, .slice A key.length c] W fun e w' => e = .returned (.bool vb) ∧ Below W.heap.size W w' := fun W hF hC => by
          have h_ := rmay2_calls rg rd cp n h Z A c key W hF HH.out.1 HH.out.2 HN.out.1 HN.out.2 HZL.out hC hlc (by omega)
          rw [hvb] at h_; exact h_
        have M1 := Aside0.mk m1
        have M2 := Aside0.mk m2
        have HLT := Aside0.mk hlt
        have HCK := Aside0.mk hck
        have hj3 := HJ.out.2.2
        have hcd : wr.drew.cell? (ad.add j) = some (.slice A key.length c) := cell_below2 hcell0 hj3.drew
        have HCD := Aside0.mk hcd
        have HFD := Aside0.mk (show Flt wr.drew g b h Z from HJ.out.1.below (Below.refl _ _).drew)
        have HXD := Aside0.mk (show RFltC wr.drew rg rd cp h (RD n Z) from HJ.out.2.1.below (Below.refl _ _).drew)
        have HBD := Aside0.mk (show Below w.heap.size w wr.drew from hj3.drew)
        clear hlt hck hlc hkey hkl hcell0 m1 m2 hvb hj3 hcd
        go_wp2
        go_region_held3 (fun W' => W'.cell? (ad.add j) = some (.slice A key.length c)) (first | (with_reducible exact HC8.out) | (with_reducible exact HC7.out) | (with_reducible exact HCD.out))
          (first
            | (go_at_call 17; refine (M2.out _ HX7.out (Kd.C_below HCK.out HB7.out)).mono ?_; rintro e w8 ⟨rfl, hb⟩; have HF8 := Aside0.mk (HF7.out.below hb); have HX8 := Aside0.mk (HX7.out.below hb); have HB8 := Aside0.mk (HB7.out.trans (hb.mono HB7.out.size)); have HC8 := Aside0.mk (cell_below2 HC7.out hb); clear hb)
            | (go_at_call 14; refine (M1.out _ HFD.out (Kd.C_below HCK.out HBD.out)).mono ?_; rintro e w7 ⟨rfl, hb⟩; have HF7 := Aside0.mk (HFD.out.below hb); have HX7 := Aside0.mk (HXD.out.below hb); have HB7 := Aside0.mk (HBD.out.trans (hb.mono HBD.out.size)); have HC7 := Aside0.mk (cell_below2 HCD.out hb); clear hb))
        all_goals
          go_wp2
          go_roundg (q.length - (j + 1))
          case measure => have := hjk.out.2; have := HLT.out; omega
          case rel => exact ⟨j + 1, by rw [hwr], ⟨HLT.out, rfl⟩, ⟨HF8.out, HX8.out, HB8.out⟩⟩
      · have d1 : decide ((j : Int) < (q.length : Int)) = false := decide_eq_false (by omega)
        have d1b : decide (j < q.length) = false := decide_eq_false hlt
        have HJB := Aside0.mk HJ.out.2.2
        clear hlt
        go_wp2_with (first | ((with_reducible refine gate_callee (f := 12) rfl ?_); refine goesL_ (some 106) rfl rfl Try.func12 (by kernel_rfl) rfl #[] rfl (by (try simp only [List.map_toArray, List.map_cons, List.map_nil]); first | done | rfl | (simp only [List.length_drop, List.length_take]; rfl)) ?_; refine (alive_calls _).mono ?_; rintro e wa ⟨rfl, hb⟩; have HBA := Aside0.mk (HJB.out.trans (hb.mono HJB.out.size)); clear hb; refine ⟨_, rfl, ?_⟩))
        go_ret
        exact ⟨rfl, HBA.out⟩

end Go.Proofs.Ytliafeandefocaa.P
