/- block.Seek's search: the first pair whose key is not less, by slices.BinarySearchFunc. No conditions. -/
import Derived.Test.YticddiiigfkamaaBkRead
import Derived.Test.YticddiiigfkamaaCmpOrd
namespace Go.Proofs.Yticddiiigfkamaa.P
open Go.RowKit Go.Proofs.YticddiiigfkamaaW.PrintWords Go.Proofs.YticddiiigfkamaaW.PrintLast Go.Proofs.YticddiiigfkamaaW.PrintMore
set_option linter.unusedVariables false
set_option linter.unusedSimpArgs false

/-- Seek's closure. -/
theorem seek1_calls (x : Pr) (A0 A1 A2 : Option Addr) (c0 c1 c2 : Nat) (key : List Int) (w : World) (h0 : Kd.C (Kd.int .u8) w A0 x.f0.length x.f0) (hc0 : x.f0.length ≤ c0) (h2 : Kd.C (Kd.int .u8) w A2 key.length key) (hc2 : key.length ≤ c2) :
    Calls Try.prog 27 #[.agg #[.slice A0 x.f0.length c0, .slice A1 x.f1.length c1], .slice A2 key.length c2] w fun e w' => e = .returned (.int .i64 (cmpI x.f0 key)) ∧ Below w.heap.size w w' := by
  have hu := Try.underlying39
  have H0 := Aside0.mk h0
  have H2 := Aside0.mk h2
  have HB0 := Aside0.mk (Below.refl w.heap.size w)
  clear h0 h2
  go_enter Try.func27, Try.ntmps27
  go_wp2_with (first | (go_at_call 28; refine (bytes_Compare.calls A0 c0 x.f0 A2 c2 key _ _ (Kd.C_below H0.out ((Below.refl _ _).alloc (Nat.le_refl _) _)) hc0 (Kd.C_below H2.out ((Below.refl _ _).alloc (Nat.le_refl _) _)) hc2 rfl).mono ?_; rintro e w2 ⟨rfl, hd⟩; have HB2 := Aside0.mk (((Below.refl w.heap.size w).alloc (Nat.le_refl _) _).trans (hd.below.mono (by simp))); clear hd))
  go_ret
  exact ⟨rfl, HB2.out⟩
/-- How many keys are less. -/
def nLess (l : List Pr) (key : List Int) : Nat := l.countP (fun p => decide (cmpI p.f0 key < 0))
theorem rises_lt : ∀ (l : List Pr), risesP l = true → ∀ (a b : Nat) (x y : Pr), a < b → l[a]? = some x → l[b]? = some y → cmpI x.f0 y.f0 < 0
  | [], _, a, b, x, y, _, h, _ => by simp at h
  | [p], _, a, b, x, y, hab, h, h2 => by
    have := (List.getElem?_eq_some_iff.1 h2).1
    simp at this; omega
  | p :: q :: l, hr, a, b, x, y, hab, h, h2 => by
    rw [risesP, Bool.and_eq_true, decide_eq_true_eq] at hr
    obtain ⟨b, rfl⟩ : ∃ j, b = j + 1 := ⟨b - 1, by omega⟩
    rw [List.getElem?_cons_succ] at h2
    cases a with
    | succ a => exact rises_lt (q :: l) hr.2 a b x y (by omega) (by simpa using h) h2
    | zero =>
      obtain rfl := Option.some.inj h
      cases b with
      | zero => obtain rfl := Option.some.inj h2; exact hr.1
      | succ b => exact cmpI_trans hr.1 (rises_lt (q :: l) hr.2 0 (b + 1) q y (by omega) rfl h2)
/-- A row whose first i are less, and whose others are not: i are. -/
theorem countP_at (p : Pr → Bool) : ∀ (l : List Pr) (i : Nat), i ≤ l.length → (∀ t x, t < i → l[t]? = some x → p x = true) → (∀ t x, i ≤ t → l[t]? = some x → p x = false) → l.countP p = i
  | [], i, hi, _, _ => by simp at hi; simp [hi]
  | a :: r, 0, _, _, h2 => by
    rw [List.countP_eq_zero]
    intro x hx
    obtain ⟨t, ht, rfl⟩ := List.getElem_of_mem hx
    have := h2 t _ (Nat.zero_le _) (List.getElem?_eq_getElem ht)
    simp [this]
  | a :: r, i + 1, hi, h1, h2 => by
    have ha : p a = true := h1 0 a (Nat.succ_pos _) rfl
    rw [List.countP_cons_of_pos ha, countP_at p r i (by simpa using hi) (fun t x ht hx => h1 (t + 1) x (by omega) (by simpa using hx)) (fun t x h3 hx => h2 (t + 1) x (by omega) (by simpa using hx))]
/-- Is the first one that is not less the key? -/
def isAt (l : List Pr) (key : List Int) : Bool := match l[nLess l key]? with | some p => decide (cmpI p.f0 key = 0) | none => false

set_option maxHeartbeats 4000000 in
set_option maxRecDepth 100000 in
theorem search_calls (A0 : Option Addr) (c0 : Nat) (l : List Pr) (A2 : Option Addr) (c2 : Nat) (key : List Int) (w : World) (hr0 : Kd.C k39 w A0 l.length l) (hl : l.length ≤ 4611686018427387903) (hs : risesP l = true) (h2 : Kd.C (Kd.int .u8) w A2 key.length key) (hc2 : key.length ≤ c2) :
    Calls Try.prog 26 #[.slice A0 l.length c0, .slice A2 key.length c2, .func (.func 27) #[] #[]] w fun e w' => e = .returned (.tuple #[.int .i64 ((nLess l key : Nat) : Int), .bool (isAt l key)]) ∧ Below w.heap.size w w' := by
  have hu := Try.underlying39
  have HR := Aside0.mk hr0
  have H2 := Aside0.mk h2
  have HS := Aside0.mk hs
  have HB0 := Aside0.mk (Below.refl w.heap.size w)
  obtain ⟨cnt, hcnt⟩ : ∃ cnt, nLess l key = cnt := ⟨_, rfl⟩
  obtain ⟨fin, hfin⟩ : ∃ fin, isAt l key = fin := ⟨_, rfl⟩
  rw [hcnt, hfin]
  have CN := Aside0.mk hcnt
  have FIN := Aside0.mk hfin
  clear hr0 h2 hs hcnt hfin
  go_enter Try.func26, Try.ntmps26
  go_wp2
  go_loopg [9, 10] l.length (fun kx s9 s10 wr => ∃ lo hi : Nat, s9 = .int .i64 lo ∧ s10 = .int .i64 hi ∧ lo ≤ hi ∧ hi ≤ l.length ∧ hi - lo ≤ kx ∧ Aside0 (Below w.heap.size w wr) ∧
    Aside0 ((∀ t x, t < lo → l[t]? = some x → cmpI x.f0 key < 0) ∧ (∀ t x, hi ≤ t → l[t]? = some x → 0 ≤ cmpI x.f0 key)))
  case atStart => exact ⟨0, l.length, rfl, rfl, Nat.zero_le _, Nat.le_refl _, by omega, HB0, ⟨fun t x ht => absurd ht (Nat.not_lt_zero _), fun t x h1 hx => absurd (List.getElem?_eq_some_iff.1 hx).1 (by omega)⟩⟩
  case round =>
    obtain ⟨lo, hi, rfl, rfl, hlh, hin, hg, HB, I⟩ := hrel
    by_cases hlt : lo < hi
    · obtain ⟨m, hm⟩ : ∃ m, (lo + hi) / 2 = m := ⟨_, rfl⟩
      have hml : m < l.length := by omega
      have hm1 : lo ≤ m := by omega
      have hm2 : m < hi := by omega
      obtain ⟨ad, B0, d0, B1, d1, rfl, hc0, hc1, hl0, hC0, hl1, hC1⟩ := at_T39 (Kd.C_below HR.out HB.out) (m : Int) (by omega) (by omega)
      obtain ⟨x, hxx⟩ : ∃ x, l[m]? = some x := ⟨_, List.getElem?_eq_getElem hml⟩
      have hx : rd_T39 l (m : Int) = x := by simp [rd_T39, List.getD_eq_getElem?_getD, hxx]
      rw [hx] at hc0 hc1 hl0 hC0 hl1 hC1
      rw [Int.toNat_natCast] at hc0 hc1
      have hdiv : ((lo : Int) + (hi : Int)) / 2 = (m : Int) := by omega
      have HX := Aside0.mk hxx
      have HM := Aside0.mk (And.intro hm1 (And.intro hm2 (And.intro hml (And.intro hin hg))))
      have i1 : (0 ≤ (m : Int)) = True := eq_true (by omega)
      have i2 : ((m : Int) < (l.length : Int)) = True := eq_true (by omega)
      have i3 : (m < l.length) = True := eq_true hml
      have hcl := fun W (hb : Below wr.heap.size wr W) => seek1_calls x B0 B1 A2 d0 d1 c2 key W (Kd.C_below hC0 hb) hl0 (Kd.C_below H2.out (HB.out.trans (hb.mono HB.out.size))) hc2
      have HCL := Aside0.mk hcl
      have hwr : wrap64 ((m : Int) + 1) = ((m + 1 : Nat) : Int) := by unfold wrap64; omega
      clear hm hml hm1 hm2 hx hxx hl0 hC0 hl1 hC1 hcl
      by_cases hyx : cmpI x.f0 key < 0
      · have d1_ : decide (cmpI x.f0 key < 0) = true := decide_eq_true hyx
        have HY := Aside0.mk hyx
        go_wp2_with (first | (go_at_call 27; refine (HCL.out _ (Below.refl _ _)).mono ?_; rintro e w2 ⟨rfl, hb⟩; have HB2 := Aside0.mk (HB.out.trans (hb.mono HB.out.size)); clear hb))
        go_roundg (hi - (m + 1))
        case measure => have := HM.out; omega
        case rel => exact ⟨m + 1, hi, rfl, rfl, HM.out.2.1, HM.out.2.2.2.1, Nat.le_refl _, HB2, ⟨fun t y ht hy => by
            rcases Nat.lt_or_eq_of_le (Nat.le_of_lt_succ ht) with h | h
            · exact cmpI_trans (rises_lt l HS.out t m y x h hy HX.out) HY.out
            · subst h; obtain rfl := Option.some.inj (hy.symm.trans HX.out); exact HY.out, I.out.2⟩⟩
      · have d1_ : decide (cmpI x.f0 key < 0) = false := decide_eq_false hyx
        have HY := Aside0.mk (Int.not_lt.1 hyx)
        go_wp2_with (first | (go_at_call 27; refine (HCL.out _ (Below.refl _ _)).mono ?_; rintro e w2 ⟨rfl, hb⟩; have HB2 := Aside0.mk (HB.out.trans (hb.mono HB.out.size)); clear hb))
        go_roundg (m - lo)
        case measure => have := HM.out; omega
        case rel => exact ⟨lo, m, rfl, rfl, HM.out.1, Nat.le_of_lt HM.out.2.2.1, Nat.le_refl _, HB2, ⟨I.out.1, fun t y ht hy => by
            rcases Nat.lt_or_eq_of_le ht with h | h
            · refine Int.not_lt.1 fun hn => ?_
              have h1 := cmpI_trans (rises_lt l HS.out m t x y h HX.out hy) hn
              have h2 := HY.out
              omega
            · subst h; obtain rfl := Option.some.inj (hy.symm.trans HX.out); exact HY.out⟩⟩
    · obtain rfl : hi = lo := by omega
      have ecnt : cnt = hi := by
        rw [← CN.out]
        refine countP_at _ l hi hin (fun t x ht hx => decide_eq_true (I.out.1 t x ht hx)) (fun t x ht hx => decide_eq_false (by have := I.out.2 t x ht hx; omega))
      subst ecnt
      by_cases hn : cnt < l.length
      · obtain ⟨ad, B0, d0, B1, d1, rfl, hc0, hc1, hl0, hC0, hl1, hC1⟩ := at_T39 (Kd.C_below HR.out HB.out) (cnt : Int) (by omega) (by omega)
        obtain ⟨x, hxx⟩ : ∃ x, l[cnt]? = some x := ⟨_, List.getElem?_eq_getElem hn⟩
        have hx : rd_T39 l (cnt : Int) = x := by simp [rd_T39, List.getD_eq_getElem?_getD, hxx]
        rw [hx] at hc0 hc1 hl0 hC0 hl1 hC1
        rw [Int.toNat_natCast] at hc0 hc1
        have hfe : fin = (cmpI x.f0 key == 0) := by rw [← FIN.out]; unfold isAt; rw [CN.out, hxx]; exact (Bool.beq_eq_decide_eq _ _).symm
        have i1 : (0 ≤ (cnt : Int)) = True := eq_true (by omega)
        have i2 : ((cnt : Int) < (l.length : Int)) = True := eq_true (by omega)
        have i3 : (cnt < l.length) = True := eq_true hn
        have HFE := Aside0.mk hfe
        have hcl := fun W (hb : Below wr.heap.size wr W) => seek1_calls x B0 B1 A2 d0 d1 c2 key W (Kd.C_below hC0 hb) hl0 (Kd.C_below H2.out (HB.out.trans (hb.mono HB.out.size))) hc2
        have HCL := Aside0.mk hcl
        clear hfe hx hxx hl0 hC0 hl1 hC1 hcl
        by_cases hyx : cmpI x.f0 key = 0
        · have d1_ : decide (cmpI x.f0 key = 0) = true := decide_eq_true hyx
          have HY := Aside0.mk (show (cmpI x.f0 key == 0) = true by first | exact beq_iff_eq.2 hyx | exact beq_eq_false_iff_ne.2 hyx)
          go_wp2_with (first | (go_at_call 27; refine (HCL.out _ (Below.refl _ _)).mono ?_; rintro e w2 ⟨rfl, hb⟩; have HB2 := Aside0.mk (HB.out.trans (hb.mono HB.out.size)); clear hb))
          go_ret2
          exact ⟨by rw [HFE.out]; first | rfl | (rw [HY.out]; rfl), HB2.out⟩
        · have d1_ : decide (cmpI x.f0 key = 0) = false := decide_eq_false hyx
          have HY := Aside0.mk (show (cmpI x.f0 key == 0) = false by first | exact beq_iff_eq.2 hyx | exact beq_eq_false_iff_ne.2 hyx)
          go_wp2_with (first | (go_at_call 27; refine (HCL.out _ (Below.refl _ _)).mono ?_; rintro e w2 ⟨rfl, hb⟩; have HB2 := Aside0.mk (HB.out.trans (hb.mono HB.out.size)); clear hb))
          go_ret2
          exact ⟨by rw [HFE.out]; first | rfl | (rw [HY.out]; rfl), HB2.out⟩
      · have hfe : fin = false := by rw [← FIN.out]; unfold isAt; rw [CN.out, List.getElem?_eq_none (by omega)]
        have HFE := Aside0.mk hfe
        clear hfe
        go_wp2
        go_ret2
        exact ⟨by rw [HFE.out]; rfl, HB.out⟩
end Go.Proofs.Yticddiiigfkamaa.P
