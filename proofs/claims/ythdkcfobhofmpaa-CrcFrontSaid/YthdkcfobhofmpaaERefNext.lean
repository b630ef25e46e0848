/- The reference's Next comes to the same plain function as crc.Next. No conditions. -/
import Derived.Test.YthdkcfobhofmpaaCrcPure2
import Derived.Test.YthdkcfobhofmpaaPrickyardref05Number
import Derived.Test.YthdkcfobhofmpaaPrickyardref05Four
import Derived.Test.YthdkcfobhofmpaaPrickyardref05Sum
import Derived.Test.YthdkcfobhofmpaaPrickyardref05Copy
import Derived.Deep.RegionWith
namespace Go.Proofs.Ythdkcfobhofmpaa.P
open Go.RowKit Go.Proofs.YthdkcfobhofmpaaW.PrintWords Go.Proofs.YthdkcfobhofmpaaW.PrintLast Go.Proofs.YthdkcfobhofmpaaW.PrintMore
set_option linter.unusedVariables false
set_option linter.unusedSimpArgs false
open Go.Proofs.Ythdkcfobhofmpaa.Pure

theorem refNumber_f {l : List Int} (hl : IsBytes l) (h : 4 ≤ l.length) : rickyardref05_Number.f l = some (num4 l) := by
  have a := hl.rd 0; have b := hl.rd 1; have c := hl.rd 2; have d := hl.rd 3
  unfold rickyardref05_Number.f num4
  rw [if_pos (by omega), if_pos (by omega), if_pos (by omega), if_pos (by omega)]
  congr 1
  unfold wrap64
  omega
theorem refFour_step (k : Nat) (v : Int) (l : List Int) (i : Nat) (h0 : 0 ≤ v) (h : v < 4294967296) (hi : i < 4) (hl : l.length < 1000) :
    rickyardref05_Four.l0 (k + 1) v l i = rickyardref05_Four.l0 k (v / 256) (l ++ [v % 256]) ((i + 1 : Nat) : Int) := by
  have hw : wrap64 ((i : Int) + 1) = ((i + 1 : Nat) : Int) := by unfold wrap64; omega
  rw [rickyardref05_Four.l0, if_pos (by omega), if_pos (by omega), Int.tdiv_eq_ediv_of_nonneg h0, Int.tmod_eq_emod_of_nonneg h0, hw, show (v / 256) % 4294967296 = v / 256 from by omega, show (v % 256) % 256 = v % 256 from by omega]
theorem refFour_k (k : Nat) (v : Int) (h0 : 0 ≤ v) (h : v < 4294967296) : rickyardref05_Four.f (k + 5) v = some (four v) := by
  unfold rickyardref05_Four.f
  rw [show (0 : Int) = ((0 : Nat) : Int) from rfl, refFour_step _ _ _ _ (by omega) (by omega) (by omega) (by simp), refFour_step _ _ _ _ (by omega) (by omega) (by omega) (by simp), refFour_step _ _ _ _ (by omega) (by omega) (by omega) (by simp), refFour_step _ _ _ _ (by omega) (by omega) (by omega) (by simp), rickyardref05_Four.l0, if_neg (by omega)]
  unfold four
  simp only [List.nil_append, List.cons_append]
  rw [show v / 256 / 256 = v / 65536 from by omega, show v / 65536 / 256 = v / 16777216 from by omega]

theorem refFour_f (v : Int) (h0 : 0 ≤ v) (h : v < 4294967296) : rickyardref05_Four.f 5 v = some (four v) := refFour_k 0 v h0 h

/-- The four bytes behind the data are the sum's just where the number is. -/
theorem mid_eq {l : List Int} (hby : IsBytes l) (m : Nat) (h : m + 8 ≤ l.length) (s : Int) (h0 : 0 ≤ s) (h1 : s < 4294967296) :
    ((strOfNums (four s)).toList = (strOfNums ((l.take (m + 8)).drop (m + 4))).toList) ↔ num4 (l.drop (m + 4)) = s := by
  rw [strOf_inj (four_bytes s) ((hby.take _).drop _)]
  have hq : (l.take (m + 8)).drop (m + 4) = (l.drop (m + 4)).take 4 := by rw [List.drop_take]; congr 1; omega
  have hl4 : ((l.drop (m + 4)).take 4).length = 4 := by rw [List.length_take, List.length_drop]; omega
  have hb := (hby.drop (m + 4)).take 4
  have hn : num4 (l.drop (m + 4)) = num4 ((l.drop (m + 4)).take 4) := by
    have e : (l.drop (m + 4)) = (l.drop (m + 4)).take 4 ++ (l.drop (m + 4)).drop 4 := (List.take_append_drop 4 _).symm
    conv => lhs; rw [e]
    unfold num4
    rw [rd_append_left (by omega) (by omega), rd_append_left (by omega) (by omega), rd_append_left (by omega) (by omega), rd_append_left (by omega) (by omega)]
  rw [hq, hn]
  generalize (l.drop (m + 4)).take 4 = q at hl4 hb
  match q, hl4 with
  | [a, b, c, d], _ =>
    have pa := hb a (by simp); have pb := hb b (by simp); have pc := hb c (by simp); have pd := hb d (by simp)
    have e2 : num4 [a, b, c, d] = a + 256 * b + 65536 * c + 16777216 * d := rfl
    rw [e2]
    unfold four
    constructor
    · intro hh
      simp only [List.cons.injEq, and_true] at hh
      omega
    · intro hh
      simp only [List.cons.injEq, and_true]
      omega

def rNext.f (l : List Int) : Option (List Int × Int × Int) := if IsBytes l ∧ l.length ≤ 140737488351232 then some (nextS l) else none

set_option maxHeartbeats 4000000 in
set_option maxRecDepth 100000 in
theorem rNext.calls (A0 : Option Addr) (c0 : Nat) (l0 : List Int) (r1 : List Int) (r2 : Int) (r3 : Int) (w : World) (hr0 : Kd.C (Kd.int .u8) w A0 l0.length l0) (hc0 : l0.length ≤ c0) (h : rNext.f l0 = some (r1, r2, r3)) :
    Calls Try.prog 20 #[.slice A0 l0.length c0] w fun e w' => ∃ v0_ : Value, e = .returned (.tuple #[v0_, .int .i64 r2, .int .i64 r3]) ∧ Kd.R (Kd.int .u8) 5 w' w.heap.size (fun _ => True) v0_ r1 ∧ Below w.heap.size w w' := by
  unfold rNext.f at h
  by_cases hcond : IsBytes l0 ∧ l0.length ≤ 140737488351232
  · rw [if_pos hcond] at h
    obtain ⟨hby, hlen⟩ := hcond
    have H := Option.some.inj h
    have HR0 := Aside0.mk hr0
    have HC0 := Aside0.mk hc0
    have HLEN := Aside0.mk hlen
    have HBY := Aside0.mk hby
    clear h hr0 hc0 hlen hby
    unfold nextS at H
    by_cases h4 : l0.length < 4
    · rw [if_pos h4] at H
      simp only [Prod.mk.injEq] at H
      obtain ⟨rfl, rfl, rfl⟩ := H
      have c2b1 : decide (l0.length < 4) = true := decide_eq_true h4
      go_enter Try.func20, Try.ntmps20
      go_wp2
      go_ret3
      exact ⟨_, rfl, Kd.R_nil _ _ _ _ _, Below.refl _ _⟩
    · rw [if_neg h4] at H
      have c2b1 : decide (l0.length < 4) = false := decide_eq_false h4
      have hnum := refNumber_f HBY.out (by omega)
      have hr := num4_range HBY.out
      generalize num4 l0 = n at H hnum hr
      have HN := Aside0.mk hnum
      clear hnum
      by_cases h5 : 65535 < n
      · rw [if_pos h5] at H
        simp only [Prod.mk.injEq] at H
        obtain ⟨rfl, rfl, rfl⟩ := H
        go_enter Try.func20, Try.ntmps20
        go_wp2_with (first | ((with_reducible refine gate_callee (f := 29) rfl ?_); refine goesL_ (some 10) rfl rfl Try.func29 (by kernel_rfl) rfl #[.slice A0 l0.length c0] rfl (by (try simp only [List.map_toArray, List.map_cons, List.map_nil]); first | done | rfl | (simp only [List.length_drop, List.length_take]; rfl)) ?_; refine (rickyardref05_Number.calls A0 c0 l0 n _ ?s1 ?s2 HN.out).mono ?_; (case s1 => exact HR0.out); (case s2 => exact HC0.out); rintro e w' ⟨rfl, ⟨nd, rfl⟩⟩; refine ⟨_, rfl, ?_⟩))
        go_ret3
        exact ⟨_, rfl, Kd.R_nil _ _ _ _ _, pw_below_drewN (Below.refl _ _) _⟩
      · rw [if_neg h5] at H
        have h5' : n ≤ 65535 := by omega
        by_cases h6 : (l0.length : Int) < n + 8
        · rw [if_pos h6] at H
          simp only [Prod.mk.injEq] at H
          obtain ⟨rfl, rfl, rfl⟩ := H
          have h6' : (l0.length : Int) < 8 + n := by omega
          go_enter Try.func20, Try.ntmps20
          go_wp2_with (first | ((with_reducible refine gate_callee (f := 29) rfl ?_); refine goesL_ (some 10) rfl rfl Try.func29 (by kernel_rfl) rfl #[.slice A0 l0.length c0] rfl (by (try simp only [List.map_toArray, List.map_cons, List.map_nil]); first | done | rfl | (simp only [List.length_drop, List.length_take]; rfl)) ?_; refine (rickyardref05_Number.calls A0 c0 l0 n _ ?s1 ?s2 HN.out).mono ?_; (case s1 => exact HR0.out); (case s2 => exact HC0.out); rintro e w' ⟨rfl, ⟨nd, rfl⟩⟩; refine ⟨_, rfl, ?_⟩))
          go_ret3
          exact ⟨_, rfl, Kd.R_nil _ _ _ _ _, pw_below_drewN (Below.refl _ _) _⟩
        · rw [if_neg h6] at H
          obtain ⟨m, rfl⟩ := Int.eq_ofNat_of_zero_le hr.1
          have h6' : ¬ ((l0.length : Int) < 8 + (m : Int)) := by omega
          have h6n : m + 8 ≤ l0.length := by omega
          have h5n : m ≤ 65535 := by omega
          rw [Int.toNat_natCast] at H
          obtain ⟨i0, hi, _, hsz, _⟩ := info_parts info5
          obtain ⟨hcut1, hA1, hcap1⟩ := print_take_of (P := Try.prog) (Value.int .u8) 0 22 5 .i64 Try.underlying22 hi hsz A0 c0 l0 (4 + (m : Int)) (by omega) (by omega) HC0.out
          obtain ⟨A2, hcut2, hA2, hcap2⟩ := print_mid_of (P := Try.prog) (Value.int .u8) 0 22 5 .i64 .i64 Try.underlying22 hi hsz A0 c0 l0 (4 + (m : Int)) (8 + (m : Int)) (by omega) (by omega) (by omega) HC0.out
          have C1 := Aside0.mk (Kd.C_of_reads (h1 := fun _ => rfl) (hA1 _ (Kd.reads_of_C HR0.out)))
          have C2 := Aside0.mk (Kd.C_of_reads (h1 := fun _ => rfl) (hA2 _ (Kd.reads_of_C HR0.out)))
          have CAP1 := Aside0.mk hcap1
          have CAP2 := Aside0.mk hcap2
          have e4 : (4 + (m : Int)).toNat = m + 4 := by omega
          have e8 : (8 + (m : Int)).toNat = m + 8 := by omega
          have L1 : (l0.take (m + 4)).length = m + 4 := by rw [List.length_take]; omega
          have L2 : ((l0.take (m + 8)).drop (m + 4)).length = 4 := by rw [List.length_drop, List.length_take]; omega
          rw [e4] at hcut1 C1 CAP1
          rw [e4, e8] at hcut2 C2 CAP2
          have hcv : ∀ W : World, Below w.heap.size w W → (convert 22 9 (.slice A2 4 (c0 - (m + 4)))).run Try.prog W = Result.ok (.string (strOfNums ((l0.take (m + 8)).drop (m + 4)))) W := fun W hW => by
            have := Kd.C_string (P := Try.prog) (c := c0 - (m + 4)) Try.underlying22 Try.underlying5 Try.underlying9 (Kd.C_below C2.out hW)
            rwa [L2] at this
          rw [L1] at hcut1
          rw [L2] at hcut2
          have hsum : rickyardref05_Sum.f (l0.take (m + 4)) = some (sumOf (l0.take (m + 4))) := rfl
          have hsr : 0 ≤ sumOf (l0.take (m + 4)) ∧ sumOf (l0.take (m + 4)) < 4294967296 := ⟨bvi_nonneg _, bvi_lt _⟩
          have hfour := refFour_f _ hsr.1 hsr.2
          have HSUM := Aside0.mk hsum
          have HFOUR := Aside0.mk hfour
          clear hsum hfour hsr hA1 hA2 hcap1 hcap2 hi hsz
          have hdr : ∀ W : World, Below w.heap.size w W → Below w.heap.size w W.drew := fun W h => below_drew h
          have hdrN : ∀ (W : World) (n : Nat), Below w.heap.size w W → Below w.heap.size w (W.drewN n) := fun W n h => pw_below_drewN h n
          have hrfl : Below w.heap.size w w := Below.refl _ _
          have hw4 : IntKind.i64.wrap (4 + (m : Int)) = 4 + (m : Int) := by rw [IntKind.wrap_i64]; omega
          have hw8 : IntKind.i64.wrap (8 + (m : Int)) = 8 + (m : Int) := by rw [IntKind.wrap_i64]; omega
          have hmid := mid_eq HBY.out m (by omega) _ (bvi_nonneg (cmore 0#32 (l0.take (m + 4)))) (bvi_lt _)
          have HMID := Aside0.mk (show ((strOfNums (four (sumOf (l0.take (m + 4))))).toList = (strOfNums ((l0.take (m + 8)).drop (m + 4))).toList) ↔ num4 (l0.drop (m + 4)) = sumOf (l0.take (m + 4)) from hmid)
          have HH := Aside0.mk H
          clear hmid H
          by_cases heq : (strOfNums (four (sumOf (l0.take (m + 4))))).toList = (strOfNums ((l0.take (m + 8)).drop (m + 4))).toList
          · have heq' : ((strOfNums (four (sumOf (l0.take (m + 4))))).toList != (strOfNums ((l0.take (m + 8)).drop (m + 4))).toList) = false := bne_eq_false_iff_eq.mpr heq
            have heqb : ((strOfNums (four (sumOf (l0.take (m + 4))))).toList == (strOfNums ((l0.take (m + 8)).drop (m + 4))).toList) = true := beq_iff_eq.mpr heq
            have hv := HH.out
            rw [if_pos (HMID.out.1 heq)] at hv
            simp only [Prod.mk.injEq] at hv
            obtain ⟨rfl, rfl, rfl⟩ := hv
            obtain ⟨i0, hi, _, hsz, _⟩ := info_parts info5
            obtain ⟨A3, hcut3, hA3, hcap3⟩ := print_mid_of (P := Try.prog) (Value.int .u8) 0 22 5 .i64 .i64 Try.underlying22 hi hsz A0 c0 l0 4 (4 + (m : Int)) (by omega) (by omega) (by omega) HC0.out
            have C3 := Aside0.mk (Kd.C_of_reads (h1 := fun _ => rfl) (hA3 _ (Kd.reads_of_C HR0.out)))
            have CAP3 := Aside0.mk hcap3
            have e44 : (4 : Int).toNat = 4 := rfl
            rw [e4, e44] at hcut3 C3 CAP3
            have L3 : ((l0.take (m + 4)).drop 4).length = m := by rw [List.length_drop, List.length_take]; omega
            rw [L3] at hcut3
            have hcp : rickyardref05_Copy.f ((l0.take (m + 4)).drop 4) = some ((l0.take (m + 4)).drop 4) := by
              have := HLEN.out
              unfold rickyardref05_Copy.f
              rw [if_pos (by rw [L3]; simp; omega)]
              rfl
            have HCP := Aside0.mk hcp
            clear heq hA3 hcap3 hi hsz hcp
            have hw8' : (m : Int) + 8 = 8 + (m : Int) := by omega
            go_enter Try.func20, Try.ntmps20
            go_wp2_with (first | ((with_reducible refine gate_callee (f := 29) rfl ?_); refine goesL_ (some 10) rfl rfl Try.func29 (by kernel_rfl) rfl #[.slice A0 l0.length c0] rfl (by (try simp only [List.map_toArray, List.map_cons, List.map_nil]); first | done | rfl | (simp only [List.length_drop, List.length_take]; rfl)) ?_; refine (rickyardref05_Number.calls A0 c0 l0 m _ ?s1 ?s2 HN.out).mono ?_; (case s1 => exact HR0.out); (case s2 => exact HC0.out); rintro e w' ⟨rfl, ⟨nd, rfl⟩⟩; refine ⟨_, rfl, ?_⟩))
            go_region_with ((first | (go_at_call 12; refine calls_of_args (args' := #[.slice A0 (l0.take (m + 4)).length c0]) (by rw [L1]) ?_; refine (rickyardref05_Sum.calls A0 c0 (l0.take (m + 4)) _ _ ?s1 ?s2 HSUM.out).mono ?_; (case s1 => exact Kd.C_below C1.out (by repeat (first | exact hrfl | apply hdr | apply hdrN))); (case s2 => exact CAP1.out); rintro e w' ⟨rfl, ⟨nd2, rfl⟩⟩) | (go_at_call 27; refine (rickyardref05_Four.calls 5 _ _ _ HFOUR.out).mono ?_; rintro e w' ⟨v, rfl, ho, hb⟩; have hcv1 := own_string (P := Try.prog) Try.underlying22 Try.underlying5 Try.underlying9 (Kd.own_of_R ho); have hB2 : Below w.heap.size w w' := Below.trans (by repeat (first | exact hrfl | apply hdr | apply hdrN)) (hb.mono (Nat.le_refl _)); clear ho hb)))
            all_goals
              go_wp2_with (first | ((with_reducible refine gate_callee (f := 15) rfl ?_); refine goesL_ (some 37) rfl rfl Try.func15 (by kernel_rfl) rfl #[.slice A3 m (c0 - 4)] rfl (by (try simp only [List.map_toArray, List.map_cons, List.map_nil]); first | done | rfl | (simp only [List.length_drop, List.length_take]; rfl)) ?_; refine calls_of_args (args' := #[.slice A3 ((l0.take (m + 4)).drop 4).length (c0 - 4)]) (by rw [L3]) ?_; refine (rickyardref05_Copy.calls A3 (c0 - 4) ((l0.take (m + 4)).drop 4) _ _ ?s1 ?s2 HCP.out).mono ?_; (case s1 => exact Kd.C_below C3.out (by repeat (first | assumption | apply hdr | apply hdrN))); (case s2 => exact CAP3.out); rintro e w2 ⟨v2, rfl, ho2, hb2⟩; refine ⟨_, rfl, ?_⟩; have HO2 := Aside0.mk ho2; have HBB := Aside0.mk hb2; clear ho2 hb2))
              go_ret3
              have hbw : Below w.heap.size w w2 := below_step (by repeat (first | assumption | apply hdr | apply hdrN)) HBB.out
              exact ⟨v2, by rw [hw8']; rfl, Kd.R_lower HO2.out (below_size (by repeat (first | assumption | apply hdr | apply hdrN))), hbw⟩
          · have hne : ((strOfNums (four (sumOf (l0.take (m + 4))))).toList != (strOfNums ((l0.take (m + 8)).drop (m + 4))).toList) = true := bne_iff_ne.mpr heq
            have heqb : ((strOfNums (four (sumOf (l0.take (m + 4))))).toList == (strOfNums ((l0.take (m + 8)).drop (m + 4))).toList) = false := beq_eq_false_iff_ne.mpr heq
            have hv := HH.out
            rw [if_neg (fun h => heq (HMID.out.2 h))] at hv
            simp only [Prod.mk.injEq] at hv
            obtain ⟨rfl, rfl, rfl⟩ := hv
            clear heq
            go_enter Try.func20, Try.ntmps20
            go_wp2_with (first | ((with_reducible refine gate_callee (f := 29) rfl ?_); refine goesL_ (some 10) rfl rfl Try.func29 (by kernel_rfl) rfl #[.slice A0 l0.length c0] rfl (by (try simp only [List.map_toArray, List.map_cons, List.map_nil]); first | done | rfl | (simp only [List.length_drop, List.length_take]; rfl)) ?_; refine (rickyardref05_Number.calls A0 c0 l0 m _ ?s1 ?s2 HN.out).mono ?_; (case s1 => exact HR0.out); (case s2 => exact HC0.out); rintro e w' ⟨rfl, ⟨nd, rfl⟩⟩; refine ⟨_, rfl, ?_⟩))
            go_region_with ((first | (go_at_call 12; refine calls_of_args (args' := #[.slice A0 (l0.take (m + 4)).length c0]) (by rw [L1]) ?_; refine (rickyardref05_Sum.calls A0 c0 (l0.take (m + 4)) _ _ ?s1 ?s2 HSUM.out).mono ?_; (case s1 => exact Kd.C_below C1.out (by repeat (first | exact hrfl | apply hdr | apply hdrN))); (case s2 => exact CAP1.out); rintro e w' ⟨rfl, ⟨nd2, rfl⟩⟩) | (go_at_call 27; refine (rickyardref05_Four.calls 5 _ _ _ HFOUR.out).mono ?_; rintro e w' ⟨v, rfl, ho, hb⟩; have hcv1 := own_string (P := Try.prog) Try.underlying22 Try.underlying5 Try.underlying9 (Kd.own_of_R ho); have hB2 : Below w.heap.size w w' := Below.trans (by repeat (first | exact hrfl | apply hdr | apply hdrN)) (hb.mono (Nat.le_refl _)); clear ho hb)))
            all_goals
              go_wp2
              go_ret3
              exact ⟨_, rfl, Kd.R_nil _ _ _ _ _, by repeat (first | assumption | apply hdr | apply hdrN)⟩
  · rw [if_neg hcond] at h
    exact absurd h (by simp)

end Go.Proofs.Ythdkcfobhofmpaa.P
