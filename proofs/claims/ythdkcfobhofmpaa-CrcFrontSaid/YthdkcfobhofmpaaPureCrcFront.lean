/- CrcFront's walk: a frame is read at a text's front, whatever stands behind it; what Next takes is what All takes first. No conditions. -/
import Derived.Test.YthdkcfobhofmpaaPureCrcBack
import Derived.Test.YthdkcfobhofmpaaEAll
import Derived.Test.YthdkcfobhofmpaaEAlive05
import Derived.Test.YthdkcfobhofmpaaPrickyardref05Copy
import Derived.Deep.RegionHeld3
namespace Go.Proofs.Ythdkcfobhofmpaa.P
open Go.RowKit Go.Proofs.YthdkcfobhofmpaaW.PrintWords Go.Proofs.YthdkcfobhofmpaaW.PrintLast Go.Proofs.YthdkcfobhofmpaaW.PrintMore
set_option linter.unusedVariables false
set_option linter.unusedSimpArgs false
open Go.Proofs.Ythdkcfobhofmpaa.Pure

/-- What is read first, and where the first frame ends. -/
theorem front_all {d m : List Int} (hd : IsBytes d) (hm : IsBytes m) (hl : d.length ≤ 2000) (hl2 : m.length ≤ 2000) : ∃ l n, allS (frame d ++ m) = (d :: l, n) ∧ d.length + 8 ≤ n := by
  have hn := nextS_frame (d := d) (by omega) m
  have hb := (frame_bytes hd).append hm
  unfold allS
  rw [allN]
  have e0 : (frame d ++ m).drop 0 = frame d ++ m := rfl
  rw [e0, hn]
  simp only [if_true]
  have e8 : ((d.length : Int) + 8).toNat = d.length + 8 := by omega
  rw [e8]
  have key : ∀ (k at_ : Nat) (out : List (List Int)), ∃ l n, allN k (frame d ++ m) at_ out = (out ++ l, n) ∧ at_ ≤ n := by
    intro k
    induction k with
    | zero => intro at_ out; exact ⟨[], at_, by simp [allN], Nat.le_refl _⟩
    | succ k ih =>
      intro at_ out
      unfold allN
      split
      · obtain ⟨l, n, h1, h2⟩ := ih (at_ + (nextS ((frame d ++ m).drop at_)).2.1.toNat) (out ++ [(nextS ((frame d ++ m).drop at_)).1])
        exact ⟨_, n, by rw [h1, List.append_assoc], by omega⟩
      · exact ⟨[], at_, by simp, Nat.le_refl _⟩
  obtain ⟨l, n, h1, h2⟩ := key (frame d ++ m).length (0 + (d.length + 8)) ([] ++ [d])
  exact ⟨l, n, by rw [h1]; rfl, by omega⟩
theorem str_of {w : World} {A : Option Addr} {n c : Nat} {l : List Int} (h : Kd.C (Kd.int .u8) w A n l) : (convert 22 9 (.slice A n c)).run Try.prog w = .ok (.string (strOfNums l)) w :=
  Kd.C_string Try.underlying22 Try.underlying5 Try.underlying9 h

set_option maxHeartbeats 4000000 in
set_option maxRecDepth 100000 in
theorem CrcFront_walk (A0 : Option Addr) (c0 : Nat) (l0 : List Int) (A1 : Option Addr) (c1 : Nat) (l1 : List Int) (w : World) (hr0 : Kd.C (Kd.int .u8) w A0 l0.length l0) (hc0 : l0.length ≤ c0) (hb0 : ∀ x ∈ l0, 0 ≤ x ∧ x < 256) (hr1 : Kd.C (Kd.int .u8) w A1 l1.length l1) (hc1 : l1.length ≤ c1) (hb1 : ∀ x ∈ l1, 0 ≤ x ∧ x < 256) :
    Calls Try.prog 9 #[.slice A0 l0.length c0, .slice A1 l1.length c1] w fun e w' => e = .returned (.bool true) ∧ Below w.heap.size w w' := by
  have HR0 := Aside0.mk hr0
  have HC0 := Aside0.mk hc0
  have HY0 := Aside0.mk (show IsBytes l0 from hb0)
  have HR1 := Aside0.mk hr1
  have HC1 := Aside0.mk hc1
  have HY1 := Aside0.mk (show IsBytes l1 from hb1)
  have HB0 := Aside0.mk (Below.refl w.heap.size w)
  clear hr0 hc0 hb0 hr1 hc1 hb1
  by_cases h1 : 2000 < l0.length
  · have d1 : decide (2000 < (l0.length : Int)) = true := decide_eq_true (by omega)
    clear h1
    go_enter Try.func9, Try.ntmps9
    go_wp2_with (first | ((with_reducible refine gate_callee (f := 10) rfl ?_); refine goesL_ (some 21) rfl rfl Try.func10 (by kernel_rfl) rfl #[] rfl (by (try simp only [List.map_toArray, List.map_cons, List.map_nil]); first | done | rfl | (simp only [List.length_drop, List.length_take]; rfl)) ?_; refine (rickyardlaw05_alive.calls true _ rfl).mono ?_; rintro e w1 ⟨rfl, hb⟩; have HB1 := Aside0.mk hb; clear hb; refine ⟨_, rfl, ?_⟩))
    go_ret
    exact ⟨rfl, HB1.out⟩
  have d1 : decide (2000 < (l0.length : Int)) = false := decide_eq_false (by omega)
  by_cases h2 : 2000 < l1.length
  · have d2 : decide (2000 < (l1.length : Int)) = true := decide_eq_true (by omega)
    clear h1 h2
    go_enter Try.func9, Try.ntmps9
    go_wp2_with (first | ((with_reducible refine gate_callee (f := 10) rfl ?_); refine goesL_ (some 21) rfl rfl Try.func10 (by kernel_rfl) rfl #[] rfl (by (try simp only [List.map_toArray, List.map_cons, List.map_nil]); first | done | rfl | (simp only [List.length_drop, List.length_take]; rfl)) ?_; refine (rickyardlaw05_alive.calls true _ rfl).mono ?_; rintro e w1 ⟨rfl, hb⟩; have HB1 := Aside0.mk hb; clear hb; refine ⟨_, rfl, ?_⟩))
    go_ret
    exact ⟨rfl, HB1.out⟩
  have d2 : decide (2000 < (l1.length : Int)) = false := decide_eq_false (by omega)
  obtain ⟨rest, n, hall, hn⟩ := front_all HY0.out HY1.out (by omega) (by omega)
  have hfr := frame_f l0 (by omega)
  have hfl := frame_length l0
  have hfb := frame_bytes HY0.out
  have hcp : rickyardref05_Copy.f (frame l0) = some (frame l0) := by
    unfold rickyardref05_Copy.f
    rw [if_pos (by simp; omega)]
    rfl
  have hcat := frame_bytes HY0.out |>.append HY1.out
  have hnx : crc_Next.f (frame l0 ++ l1) = some (l0, (l0.length : Int) + 8, 0) := by
    rw [next_f hcat (by rw [List.length_append, hfl]; omega), nextS_frame (by omega)]
  have hal : crc_All.f (frame l0 ++ l1) = some (l0 :: rest, (n : Int)) := by
    unfold crc_All.f
    rw [if_pos ⟨hcat, by rw [List.length_append, hfl]; omega⟩, hall]
  obtain ⟨F, hF⟩ : ∃ F, frame l0 = F := ⟨_, rfl⟩
  rw [hF] at hfr hfl hcp hnx hal
  obtain ⟨G, hG⟩ : ∃ G, F ++ l1 = G := ⟨_, rfl⟩
  rw [hG] at hnx hal
  have HFR := Aside0.mk hfr
  have HFL := Aside0.mk hfl
  have HCP := Aside0.mk hcp
  have HNX := Aside0.mk hnx
  have HAL := Aside0.mk hal
  have HG := Aside0.mk hG
  have HN := Aside0.mk hn
  have HL := Aside0.mk (show l0.length ≤ 2000 ∧ l1.length ≤ 2000 by omega)
  clear hfr hfl hfb hcp hcat hnx hal hF hG hall hn h1 h2
  go_enter Try.func9, Try.ntmps9
  go_wp2_with (first
    | ((with_reducible refine gate_callee (f := 19) rfl ?_); refine goesL_ (some 39) rfl rfl Try.func19 (by kernel_rfl) rfl #[.slice A7 G.length c7] rfl (by (try simp only [List.map_toArray, List.map_cons, List.map_nil]); first | done | rfl | (simp only [List.length_drop, List.length_take]; rfl)) ?_; refine (crc_All.calls A7 c7 G _ _ _ (Kd.C_below C7.out B5.out) L7.out HAL.out).mono ?_; rintro e w6 ⟨v6, rfl, hs6, hb6⟩; have B6 := Aside0.mk hb6; obtain ⟨A6, c6, rfl, hl6, hC6⟩ := Kd.S_reads hs6; have C6 := Aside0.mk hC6; clear hs6 hb6 hl6 hC6; refine ⟨_, rfl, ?_⟩)
    | ((with_reducible refine gate_callee (f := 17) rfl ?_); refine goesL_ (some 33) rfl rfl Try.func17 (by kernel_rfl) rfl #[.slice A7 G.length c7] rfl (by (try simp only [List.map_toArray, List.map_cons, List.map_nil]); first | done | rfl | (simp only [List.length_drop, List.length_take]; rfl)) ?_; refine (crc_Next.calls A7 c7 G _ _ _ _ C7.out L7.out HNX.out).mono ?_; rintro e w5 ⟨v5, rfl, ho5, hb5⟩; have B5 := Aside0.mk hb5; obtain ⟨A5, c5, rfl, hl5, hC5⟩ := Kd.R_reads ho5; have C5 := Aside0.mk hC5; clear ho5 hb5 hl5 hC5; refine ⟨_, rfl, ?_⟩)
    | ((with_reducible refine gate_builtin (b := .append) (xs := #[.tmp 28, .tmp 29]) rfl ?_); at_builtin; refine Kd.R_append_rows (Kd.int .u8) (w0 := w) w.heap.size rfl (.tmp 28) (.tmp 29) 22 5 (.int .u8 0) 1 rfl Try.underlying22 info5 rfl (by decide) (by omega) _ F l1 _ _ _ (fun _ => True) (fun _ => False) rfl rfl ?aO ?aR (fun _ _ h => h) (fun _ h => h.elim) ?aF ?aB ?aS ?aL ?_; (case aR => exact Kd.C_below HR1.out BB3.out); (case aB => exact BB3.out); (case aF => exact (fun _ _ => trivial)); (case aO => exact O3.out); (case aS => exact BB3.out.size); (case aL => have := HL.out; have := HFL.out; omega); intro v7 w4 ho7 hb7 hg7 hat7; rw [HG.out] at ho7; have BB4 := Aside0.mk hb7; obtain ⟨A7, c7, rfl, hl7, hC7⟩ := Kd.R_reads ho7; have C7 := Aside0.mk hC7; have L7 := Aside0.mk hl7; clear ho7 hb7 hg7 hat7 hl7 hC7)
    | ((with_reducible refine gate_callee (f := 15) rfl ?_); refine goesL_ (some 28) rfl rfl Try.func15 (by kernel_rfl) rfl #[.slice A2 F.length c2] rfl (by (try simp only [List.map_toArray, List.map_cons, List.map_nil]); first | done | rfl | (simp only [List.length_drop, List.length_take]; rfl)) ?_; refine (rickyardref05_Copy.calls A2 c2 F _ _ C2.out L2.out HCP.out).mono ?_; rintro e w3 ⟨v3, rfl, ho3, hb3⟩; have BB3 := Aside0.mk (BB2.out.trans (hb3.mono BB2.out.size)); have O3 := Aside0.mk (Kd.R_lower ho3 BB2.out.size); clear ho3 hb3; refine ⟨_, rfl, ?_⟩)
    | ((with_reducible refine gate_callee (f := 16) rfl ?_); refine goesL_ (some 24) rfl rfl Try.func16 (by kernel_rfl) rfl #[.slice A0 l0.length c0] rfl (by (try simp only [List.map_toArray, List.map_cons, List.map_nil]); first | done | rfl | (simp only [List.length_drop, List.length_take]; rfl)) ?_; refine (crc_Frame.calls A0 c0 l0 _ _ _ HR0.out HC0.out HFR.out).mono ?_; rintro e w2 ⟨v2, rfl, ho2, hb2⟩; have BB2 := Aside0.mk hb2; obtain ⟨A2, c2, rfl, hl2, hC2⟩ := Kd.R_reads ho2; have C2 := Aside0.mk hC2; have L2 := Aside0.mk hl2; clear ho2 hb2 hl2 hC2; refine ⟨_, rfl, ?_⟩))
  obtain ⟨ad, A8, c8, e6, hcl, hl8, hC8⟩ := at_L2 C6.out 0 (by omega) (by simp)
  cases e6
  have hrd : rd_L2 (l0 :: rest) 0 = l0 := rfl
  rw [hrd] at hcl hl8 hC8
  have e0 : ad.add (0 : Int).toNat = ad := by simp [Addr.add]
  rw [e0] at hcl
  have hw0 : Below w.heap.size w w6 := (BB4.out.trans (B5.out.mono BB4.out.size)).trans (B6.out.mono (below_size (BB4.out.trans (B5.out.mono BB4.out.size))))
  have K6 : ∀ W, Below w6.heap.size w6 W → W.cell? ad = some (.slice A8 l0.length c8) ∧ (convert 22 9 (.slice A5 l0.length c5)).run Try.prog W = .ok (.string (strOfNums l0)) W ∧ (convert 22 9 (.slice A0 l0.length c0)).run Try.prog W = .ok (.string (strOfNums l0)) W ∧ (convert 22 9 (.slice A8 l0.length c8)).run Try.prog W = .ok (.string (strOfNums l0)) W := fun W hW =>
    ⟨pw_cell_below hW hcl, str_of (Kd.C_below (Kd.C_below C5.out B6.out) hW), str_of (Kd.C_below (Kd.C_below HR0.out hw0) hW), str_of (Kd.C_below hC8 hW)⟩
  have KK := Aside0.mk K6
  have HW0 := Aside0.mk hw0
  have s0 := Aside0.mk (K6 w6.drew (Below.refl _ _).drew)
  have q1 : ((l0.length : Int) + 8 == (F.length : Int)) = true := by rw [HFL.out]; simp
  have q2 : decide ((l0.length : Int) + 8 ≤ (n : Int)) = true := decide_eq_true (by have := HN.out; omega)
  clear K6 hw0 hcl hl8 hC8 hrd e0
  obtain ⟨N, hN⟩ : ∃ N, rest.length + 1 = N := ⟨_, rfl⟩
  rw [hN]
  have q3 : decide ((1 : Int) ≤ (N : Int)) = true := decide_eq_true (by omega)
  have q4 : decide (1 ≤ N) = true := decide_eq_true (by omega)
  have q5 : ((0 : Int) < (N : Int)) = True := eq_true (by omega)
  have q6 : (0 < N) = True := eq_true (by omega)
  clear hN
  go_region_held3 (fun W => W.cell? ad = some (.slice A8 l0.length c8) ∧ (convert 22 9 (.slice A5 l0.length c5)).run Try.prog W = .ok (.string (strOfNums l0)) W ∧ (convert 22 9 (.slice A0 l0.length c0)).run Try.prog W = .ok (.string (strOfNums l0)) W ∧ (convert 22 9 (.slice A8 l0.length c8)).run Try.prog W = .ok (.string (strOfNums l0)) W) (first | (with_reducible exact s1.out) | (with_reducible exact s0.out))
    (first | (go_at_call 10; refine (rickyardlaw05_alive.calls true _ rfl).mono ?_; rintro e w7 ⟨rfl, hb⟩; have hb6 := Below.trans (Below.refl w6.heap.size w6).drew hb; have s1 := Aside0.mk (KK.out w7 hb6); have HB7 := Aside0.mk (HW0.out.trans (hb6.mono HW0.out.size)); clear hb hb6))
  all_goals
    go_wp2
    go_ret
    exact ⟨rfl, HB7.out⟩

end Go.Proofs.Ythdkcfobhofmpaa.P
