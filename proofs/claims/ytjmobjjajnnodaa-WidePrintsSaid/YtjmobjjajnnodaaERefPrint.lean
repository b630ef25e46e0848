/- The reference's Print: the same digits as the code's. Guard: a number of 128 digits. -/
import Derived.Test.YtjmobjjajnnodaaERefDec
import Derived.Test.YtjmobjjajnnodaaERefMinus
import Derived.Test.YtjmobjjajnnodaaWideParse
namespace Go.Proofs.Ytjmobjjajnnodaa.P
open Go.RowKit Go.Proofs.YtjmobjjajnnodaaW.PrintWords Go.Proofs.YtjmobjjajnnodaaW.PrintLast Go.Proofs.YtjmobjjajnnodaaW.PrintMore
set_option linter.unusedVariables false
set_option linter.unusedSimpArgs false

def W128 (a0 a1 : Int) : Prop := 0 ≤ a1 ∧ a1 < 18446744073709551616 ∧ -9223372036854775808 ≤ a0 ∧ a0 < 9223372036854775808
theorem refMinus_n (a0 a1 : Int) (h : W128 a0 a1) : rickyardref01_Minus.f a0 a1 = some (negHi a0 a1, negLo a1) := by
  obtain ⟨h1, h2, h3, h4⟩ := h
  have e0 := neg_f a0 a1 h1 h2 h3 h4
  unfold wide_Minus.f at e0
  rw [e0]
  unfold rickyardref01_Minus.f
  rw [if_pos ⟨h1, h2⟩, add_f _ _ _ _ (by omega) (by omega) (by omega) (by omega)]
  have e : wrap64 (18446744073709551615 - IntKind.u64.wrap a0) = -1 - a0 := by rw [IntKind.wrap_u64]; unfold wrap64; omega
  have e2 : vl (wrap64 (18446744073709551615 - IntKind.u64.wrap a0)) (18446744073709551615 - a1) + vl 0 1 = -(vl a0 a1) := by
    rw [e]; unfold vl; omega
  rw [e2]
theorem big_neg (a0 a1 : Int) (h : a0 < 0) : big (negHi a0 a1) (negLo a1) = prN a0 a1 := by
  unfold big bigOf prN prHi prLo
  rw [if_pos h, if_pos h]
  have h1 := wrap_u64_nn (negHi a0 a1)
  have h2 : 0 ≤ negLo a1 := sumLo_nn _ _
  omega
theorem big_pos (a0 a1 : Int) (h : ¬ a0 < 0) (h0 : 0 ≤ a1) : big a0 a1 = prN a0 a1 := by
  unfold big bigOf prN prHi prLo
  rw [if_neg h, if_neg h]
  have h1 := wrap_u64_nn a0
  omega
theorem prN_lt (a0 a1 : Int) (h : W128 a0 a1) : prN a0 a1 < 340282366920938463463374607431768211456 ∧ (dec (prN a0 a1)).length ≤ 100 := by
  obtain ⟨h1, h2, h3, h4⟩ := h
  have hN := prN_vl a0 a1 h1 h2 h3 h4
  have hlt : prN a0 a1 < 340282366920938463463374607431768211456 := by unfold vl at hN; split at hN <;> omega
  refine ⟨hlt, ?_⟩
  have := dec_len 38 (prN a0 a1) (by rw [show (10 : Nat) ^ (38 + 1) = 1000000000000000000000000000000000000000 from rfl]; omega)
  omega
theorem minus_str (l : List Int) : (⟨#[45]⟩ : ByteArray) ++ strOfNums l = strOfNums (45 :: l) := by
  apply ByteArray.ext
  rw [ByteArray.data_append]
  apply Array.ext'
  simp [strOfNums]

instance (a0 a1 : Int) : Decidable (W128 a0 a1) := inferInstanceAs (Decidable (_ ∧ _ ∧ _ ∧ _))
def rickyardref01_Print.f (a0 a1 : Int) : Option ByteArray := if W128 a0 a1 then some (strOfNums (prOut a0 a1)) else none
set_option maxHeartbeats 1000000 in
set_option maxRecDepth 100000 in
theorem rickyardref01_Print.calls (a0 a1 : Int) (r : ByteArray) (w : World) (h : rickyardref01_Print.f a0 a1 = some r) :
    Calls Try.prog 18 #[.agg #[.int .i64 a0, .int .u64 a1]] w fun e w' => e = .returned (.string r) ∧ Below w.heap.size w w' := by
  unfold rickyardref01_Print.f at h
  by_cases hc : W128 a0 a1
  case neg => rw [if_neg hc] at h; cases h
  rw [if_pos hc] at h
  obtain rfl := Option.some.inj h
  clear h
  obtain ⟨hp1, hp2⟩ := prN_lt a0 a1 hc
  have hu := Try.underlying24
  have hu2 := Try.underlying48
  have HB0 := Aside0.mk (Below.refl w.heap.size w)
  by_cases hn : a0 < 0
  · have hM := fun W => rickyardref01_Minus.calls a0 a1 _ _ W (refMinus_n a0 a1 hc)
    have hDg := fun W => digits_calls (negHi a0 a1) (negLo a1) W (sumLo_nn _ _) (sumLo_lt _ _)
    rw [big_neg a0 a1 hn] at hDg
    have hDc := fun W => ref_decimal (prN a0 a1) W hp1 hp2
    have hout : prOut a0 a1 = 45 :: dec (prN a0 a1) := by rw [prOut, if_pos hn]
    rw [hout, ← minus_str]
    obtain ⟨n, hn_⟩ : ∃ n, prN a0 a1 = n := ⟨_, rfl⟩
    rw [hn_] at hDg hDc ⊢
    have HM := Aside0.mk hM
    have HDG := Aside0.mk hDg
    have HDC := Aside0.mk hDc
    have d1 : decide (a0 < 0) = true := decide_eq_true hn
    have hsz : (strOfNums (dec n)).size ≤ 100 := by rw [strOfNums_size, ← hn_]; exact hp2
    clear hM hDg hDc hout hn_ hp1 hp2 hn hc
    go_enter Try.func18, Try.ntmps18
    go_wp2_with (first
      | ((with_reducible refine gate_callee (f := 24) rfl ?_); refine goesL_ (some 7) rfl rfl Try.func24 (by kernel_rfl) rfl #[.agg #[.int .i64 a0, .int .u64 a1]] rfl (by (try simp only [List.map_toArray, List.map_cons, List.map_nil]); first | done | rfl | (simp only [List.length_drop, List.length_take]; rfl)) ?_; refine (HM.out _).mono ?_; rintro e w2 ⟨rfl, hb⟩; have HB2 := Aside0.mk ((below_alloc HB0.out (.cells #[.int .i64 a0, .int .u64 a1] 24)).trans (hb.mono (by simp))); clear hb; refine ⟨_, rfl, ?_⟩)
      | ((with_reducible refine gate_callee (f := 31) rfl ?_); refine goesL_ (some 8) rfl rfl Try.func31 (by kernel_rfl) rfl #[.agg #[.int .i64 (negHi a0 a1), .int .u64 (negLo a1)]] rfl (by (try simp only [List.map_toArray, List.map_cons, List.map_nil]); first | done | rfl | (simp only [List.length_drop, List.length_take]; rfl)) ?_; refine (HDG.out _).mono ?_; rintro e w3 ⟨rfl, hb⟩; have HB3 := Aside0.mk (HB2.out.trans (hb.mono HB2.out.size)); clear hb; refine ⟨_, rfl, ?_⟩)
      | ((with_reducible refine gate_callee (f := 35) rfl ?_); refine goesL_ (some 9) rfl rfl Try.func35 (by kernel_rfl) rfl #[.agg (cells16 (dg n)).toArray] rfl (by (try simp only [List.map_toArray, List.map_cons, List.map_nil]); first | done | rfl | (simp only [List.length_drop, List.length_take]; rfl)) ?_; refine (HDC.out _).mono ?_; rintro e w4 ⟨rfl, hb⟩; have HB4 := Aside0.mk (HB3.out.trans (hb.mono HB3.out.size)); clear hb; refine ⟨_, rfl, ?_⟩))
    go_ret
    exact ⟨by first | rfl | simp, HB4.out⟩
  · have hDg := fun W => digits_calls a0 a1 W hc.1 hc.2.1
    rw [big_pos a0 a1 hn hc.1] at hDg
    have hDc := fun W => ref_decimal (prN a0 a1) W hp1 hp2
    have hout : prOut a0 a1 = dec (prN a0 a1) := by rw [prOut, if_neg hn]
    rw [hout]
    obtain ⟨n, hn_⟩ : ∃ n, prN a0 a1 = n := ⟨_, rfl⟩
    rw [hn_] at hDg hDc ⊢
    have HDG := Aside0.mk hDg
    have HDC := Aside0.mk hDc
    have d1 : decide (a0 < 0) = false := decide_eq_false hn
    clear hDg hDc hout hn_ hp1 hp2 hn hc
    go_enter Try.func18, Try.ntmps18
    go_wp2_with (first
      | ((with_reducible refine gate_callee (f := 31) rfl ?_); refine goesL_ (some 12) rfl rfl Try.func31 (by kernel_rfl) rfl #[.agg #[.int .i64 a0, .int .u64 a1]] rfl (by (try simp only [List.map_toArray, List.map_cons, List.map_nil]); first | done | rfl | (simp only [List.length_drop, List.length_take]; rfl)) ?_; refine (HDG.out _).mono ?_; rintro e w3 ⟨rfl, hb⟩; have HB3 := Aside0.mk ((below_alloc HB0.out (.cells #[.int .i64 a0, .int .u64 a1] 24)).trans (hb.mono (by simp))); clear hb; refine ⟨_, rfl, ?_⟩)
      | ((with_reducible refine gate_callee (f := 35) rfl ?_); refine goesL_ (some 13) rfl rfl Try.func35 (by kernel_rfl) rfl #[.agg (cells16 (dg n)).toArray] rfl (by (try simp only [List.map_toArray, List.map_cons, List.map_nil]); first | done | rfl | (simp only [List.length_drop, List.length_take]; rfl)) ?_; refine (HDC.out _).mono ?_; rintro e w4 ⟨rfl, hb⟩; have HB4 := Aside0.mk (HB3.out.trans (hb.mono HB3.out.size)); clear hb; refine ⟨_, rfl, ?_⟩))
    go_ret
    exact ⟨rfl, HB4.out⟩
end Go.Proofs.Ytjmobjjajnnodaa.P
