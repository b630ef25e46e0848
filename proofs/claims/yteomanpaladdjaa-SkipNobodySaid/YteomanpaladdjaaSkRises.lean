/- SkipRises: the walk. No conditions. -/
import Derived.Test.YteomanpaladdjaaSkTowers
namespace Go.Proofs.Yteomanpaladdjaa.P
open Go.RowKit Go.Proofs.Yteomanpaladdjaa.Pure Go.Proofs.YteomanpaladdjaaW.PrintWords Go.Proofs.YteomanpaladdjaaW.PrintLast Go.Proofs.YteomanpaladdjaaW.PrintMore
set_option linter.unusedVariables false
set_option linter.unusedSimpArgs false
theorem geq_run {P : Program} (t : TypeId) (a b : ByteArray) (w : World) : (binOp .geq t (.string a) (.string b)).run P w = .ok (.bool (!(Op.bytesLess a.toList b.toList))) w := by simp [binOp, Op.stringOp]
theorem lss_run {P : Program} (t : TypeId) (a b : ByteArray) (w : World) : (binOp .lss t (.string a) (.string b)).run P w = .ok (.bool (Op.bytesLess a.toList b.toList)) w := by simp [binOp, Op.stringOp]
theorem w64_diff {a b c : Nat} (h : a = b + c) (h2 : a < 4611686018427387904) : wrap64 ((a : Int) - (b : Int)) = (c : Int) := by unfold wrap64; omega
theorem es_split (key : List Int) : ∀ (es : List En), Rises es → ∃ X Y, es = X ++ Y ∧ (∀ m ∈ X, cmpI m.f0 key < 0) ∧ (∀ m ∈ Y, ¬ cmpI m.f0 key < 0) ∧ fromE key es = Y
  | [], _ => ⟨[], [], rfl, (fun m h => by cases h), (fun m h => by cases h), rfl⟩
  | y :: es, hr => by
    have h2 := List.pairwise_cons.1 hr
    by_cases h : cmpI y.f0 key < 0
    · obtain ⟨X, Y, rfl, h3, h4, h5⟩ := es_split key es h2.2
      refine ⟨y :: X, Y, rfl, fun m hm => ?_, h4, ?_⟩
      · rcases List.mem_cons.1 hm with rfl | hm
        · exact h
        · exact h3 m hm
      · unfold fromE at h5 ⊢
        rw [List.filter_cons, decide_eq_true h, if_neg (by decide), h5]
    · have hall : ∀ m ∈ y :: es, ¬ cmpI m.f0 key < 0 := fun m hm => by
        rcases List.mem_cons.1 hm with rfl | hm
        · exact h
        · exact fun h3 => h (cmpI_trans (h2.1 m hm) h3)
      refine ⟨[], y :: es, rfl, (fun m h => by cases h), hall, ?_⟩
      unfold fromE
      rw [List.filter_eq_self]
      intro m hm
      rw [decide_eq_false (hall m hm)]; rfl
set_option maxHeartbeats 400000 in
set_option maxRecDepth 100000 in
theorem SkipRises_walk (A0 : Option Addr) (c0 : Nat) (l : List En) (A1 : Option Addr) (c1 : Nat) (hs : List Int) (A2 : Option Addr) (c2 : Nat) (key : List Int) (most : Int) (w : World) (hr : Kd.C k38 w A0 l.length l) (hok : ∀ x ∈ l, Byt x ∧ OkAg x.f1) (hh : Kd.C (Kd.int .u8) w A1 hs.length hs) (ho : Kd.C (Kd.int .u8) w A2 key.length key) (hoc : key.length ≤ c2) :
    Calls Try.prog 4 #[.slice A0 l.length c0, .slice A1 hs.length c1, .slice A2 key.length c2, .int .i64 most] w fun e w' => e = .returned (.bool true) ∧ Below w.heap.size w w' := by
  have HAL := Aside0.mk alive_calls
  by_cases hl : 100 < l.length
  · have d1 : decide ((100 : Int) < (l.length : Int)) = true := decide_eq_true (by omega)
    have d1b : decide (100 < l.length) = true := decide_eq_true hl
    clear hl hr hok hh ho hoc
    go_enter Try.func4, Try.ntmps4
    go_wp2_with (first | (go_at_call 9; refine (HAL.out _).mono ?_; rintro e w1 ⟨rfl, hb⟩; have HB1 := Aside0.mk hb; clear hb))
    go_ret
    exact ⟨rfl, HB1.out⟩
  have d1 : decide ((100 : Int) < (l.length : Int)) = false := decide_eq_false (by omega)
  have d1b : decide (100 < l.length) = false := decide_eq_false hl
  by_cases hko : 1000 < key.length
  · have d2 : decide ((1000 : Int) < (key.length : Int)) = true := decide_eq_true (by omega)
    have d2b : decide (1000 < key.length) = true := decide_eq_true hko
    clear hl hr hok hh ho hoc hko
    go_enter Try.func4, Try.ntmps4
    go_wp2_with (first | (go_at_call 9; refine (HAL.out _).mono ?_; rintro e w1 ⟨rfl, hb⟩; have HB1 := Aside0.mk hb; clear hb))
    go_ret
    exact ⟨rfl, HB1.out⟩
  have d2 : decide ((1000 : Int) < (key.length : Int)) = false := decide_eq_false (by omega)
  have d2b : decide (1000 < key.length) = false := decide_eq_false hko
  have HL := Aside0.mk (show l.length ≤ 100 by omega)
  have HP := Aside0.mk (put_calls A0 c0 l A1 c1 hs 0 w hr hh HL.out (by omega) hok)
  have HO := Aside0.mk (And.intro ho hoc)
  cases hpa : putAll l hs 0 with
  | none =>
    rw [hpa] at HP
    clear hpa hl hr hok hh ho hoc hko
    go_enter Try.func4, Try.ntmps4
    go_wp2_with (first
      | (go_at_call 10; refine (HP.out).mono ?_; rintro e w1 ⟨hb, rfl⟩; have HB0 := Aside0.mk hb; clear hb)
      | (go_at_call 9; refine (HAL.out _).mono ?_; rintro e w3 ⟨rfl, hb⟩; have HB1 := Aside0.mk (show Below w.heap.size w w3 from HB0.out.trans (hb.mono HB0.out.size)); clear hb))
    go_ret
    exact ⟨rfl, HB1.out⟩
  | some es =>
    rw [hpa] at HP
    clear hpa hl hr hok hh ho hoc hko
    obtain ⟨en, hen⟩ : ∃ n, es.length = n := ⟨_, rfl⟩
    obtain ⟨L, hL⟩ : ∃ L, seekE es key most = L := ⟨_, rfl⟩
    obtain ⟨nn, hnn⟩ : ∃ n, L.length = n := ⟨_, rfl⟩
    have HEN := Aside0.mk hen
    have HNN := Aside0.mk hnn
    have HSL := Aside0.mk hL
    clear hen hL hnn
    go_enter Try.func4, Try.ntmps4
    go_upto_region 7 with (first
      | (go_at_call 10; refine (HP.out).mono ?_; rintro e w1 ⟨hb, g, ok1, rfl, hs1, hg1⟩; have HB1 := Aside0.mk hb; have HS1 := Aside0.mk (And.intro hs1 hg1); clear hb hs1 hg1)
      | (go_at_call 12; refine (SkS.all (w := w) HS1.out.1 HS1.out.2 en HEN.out).mono ?_; rintro e w4 ⟨A4, d4, rfl, hc, hle, hb⟩; have HB4 := Aside0.mk (show Below w.heap.size w w4 from HB1.out.trans (hb.mono HB1.out.size)); have HX4 := Aside0.mk (SkS.below HS1.out.1 hb); have HC40 := Aside0.mk (And.intro hc hle); clear hb hc hle)
      | (go_at_call 14; refine (Seek_S HX4.out HS1.out.2 A2 c2 key (Kd.C_below HO.out.1 HB4.out) HO.out.2 most).mono ?_; rintro e w5 ⟨v5, rfl, hv, hb⟩; rw [HSL.out] at hv; obtain ⟨A5, d5, hv5⟩ := Kd.S_slice hv; rw [HNN.out] at hv5; subst hv5; have HBW := Aside0.mk (show Below w.heap.size w w5 from HB4.out.trans (hb.mono HB4.out.size)); have HC4 := Aside0.mk (And.intro (Kd.C_below HC40.out.1 hb) HC40.out.2); have HC5 := Aside0.mk (show k38.C w5 A5 nn L ∧ nn ≤ d5 from ⟨by have h_ := (Kd.S_reads' hv).2.2; rw [HNN.out] at h_; exact h_, (Kd.S_reads' hv).2.1⟩); clear hb hv))
    obtain ⟨X, Y, hXY, hX, hY, hFY⟩ := es_split key es HS1.out.2.rises
    obtain ⟨p, hp⟩ : ∃ p, X.length = p := ⟨_, rfl⟩
    obtain ⟨yl, hyl⟩ : ∃ p, Y.length = p := ⟨_, rfl⟩
    have hen2 : en = p + yl := by rw [← HEN.out, hXY, List.length_append, hp, hyl]
    have HLen := Aside0.mk (show en ≤ 4096 by rw [← HEN.out]; exact HS1.out.2.most)
    have hLY : L = Y.take nn ∧ nn ≤ yl ∧ (nn : Int) = if most < 1 then 0 else if most < (yl : Int) then most else (yl : Int) := by
      have h1 := HSL.out
      unfold seekE at h1
      rw [hFY] at h1
      by_cases hm : most < 1
      · rw [if_pos hm] at h1
        have h2 := HNN.out
        rw [← h1] at h2
        rw [if_pos hm, ← h1, ← h2]
        exact ⟨rfl, Nat.zero_le _, rfl⟩
      · rw [if_neg hm] at h1
        have h2 := HNN.out
        rw [← h1, List.length_take, hyl] at h2
        rw [if_neg hm, ← h1]
        refine ⟨?_, by omega, ?_⟩
        · by_cases hmy : most.toNat ≤ yl
          · rw [show nn = most.toNat by omega]
          · rw [List.take_of_length_le (by omega), List.take_of_length_le (by omega)]
        · split <;> omega
    have HLE := Aside0.mk (show (es.take (p + nn)).drop p = L by
      rw [hXY, List.take_append, hp, List.take_of_length_le (by omega), List.drop_append, hp, Nat.sub_self, List.drop_of_length_le (by omega), List.nil_append, List.drop_zero, show p + nn - p = nn by omega, hLY.1])
    have HPN := Aside0.mk (show p + nn ≤ en ∧ en ≤ 4096 from ⟨by have := hLY.2.1; omega, HLen.out⟩)
    have HLL := Aside0.mk (show L.length ≤ 4096 by rw [HNN.out]; have := HPN.out; omega)
    have HNZ := Aside0.mk hLY.2.2
    have HENP := Aside0.mk hen2
    have HAT := Aside0.mk (show ∀ i x, es[i]? = some x → (i < p → cmpI x.f0 key < 0) ∧ (p ≤ i → ¬ cmpI x.f0 key < 0) from fun i x hx => by
      rw [hXY] at hx
      refine ⟨fun h => ?_, fun h => ?_⟩
      · rw [List.getElem?_append_left (by omega)] at hx
        exact hX x (List.mem_of_getElem? hx)
      · rw [List.getElem?_append_right (by omega)] at hx
        exact hY x (List.mem_of_getElem? hx))
    have HRI := Aside0.mk (show ∀ i x y, es[i]? = some x → es[i + 1]? = some y → cmpI x.f0 y.f0 < 0 from fun i x y hx hy => by
      have hr := HS1.out.2.rises
      have h1 := (List.getElem?_eq_some_iff.1 hx)
      have h2 := (List.getElem?_eq_some_iff.1 hy)
      obtain ⟨a1, rfl⟩ := h1
      obtain ⟨a2, rfl⟩ := h2
      exact List.pairwise_iff_getElem.1 hr i (i + 1) a1 a2 (Nat.lt_succ_self i))
    clear hXY hX hY hFY hp hyl hen2 hLY
    go_wp2
    go_loopg [12, 13] (en + 1) (fun kq v12 v13 w' => ∃ (i : Nat), v13 = .int .i64 (i : Int) ∧ v12 = .int .i64 ((min i p : Nat) : Int) ∧ Aside0 (i ≤ en ∧ kq = en + 1 - i) ∧ Aside0 (Below w5.heap.size w5 w'))
    case atStart => exact ⟨0, rfl, by rw [Nat.zero_min]; rfl, ⟨Nat.zero_le _, rfl⟩, ⟨Below.refl _ _⟩⟩
    case round =>
      obtain ⟨i, rfl, rfl, HI, HB⟩ := hrel
      by_cases hi : i < en
      · have d3 : decide ((i : Int) < (en : Int)) = true := decide_eq_true (by omega)
        have d3b : decide (i < en) = true := decide_eq_true hi
        have i1 : (0 ≤ (i : Int)) = True := eq_true (by omega)
        have i2 : ((i : Int) < (en : Int)) = True := eq_true (by omega)
        have i3 : (i < en) = True := eq_true hi
        obtain ⟨x, hx⟩ : ∃ x, es[i]? = some x := ⟨_, List.getElem?_eq_getElem (by rw [HEN.out]; exact hi)⟩
        have HXI := Aside0.mk hx
        have HIL := Aside0.mk hi
        have hw1 : wrap64 ((i : Int) + 1) = ((i + 1 : Nat) : Int) := w64_up (by have := HLen.out; omega)
        have HW1 := Aside0.mk hw1
        have HCW := Aside0.mk (show k38.C wr A4 es.length es by rw [HEN.out]; exact Kd.C_below HC4.out.1 HB.out)
        obtain ⟨ad, Bx, dx, hA, k0, _, _, _, _, _, _, lx, cx⟩ := at_en HCW.out hx
        subst hA
        have hcv1 := fun n_ : Nat => Kd.C_string (P := Try.prog) (A := Bx) (c := dx) Try.underlying23 Try.underlying5 Try.underlying9 (Kd.C_drewN cx n_)
        have hcvk := fun n_ : Nat => Kd.C_string (P := Try.prog) (A := A2) (c := c2) Try.underlying23 Try.underlying5 Try.underlying9 (Kd.C_drewN (Kd.C_below HO.out.1 (HBW.out.trans (HB.out.mono HBW.out.size))) n_)
        have hge := fun (t : TypeId) (a b : ByteArray) (W : World) => geq_run (P := Try.prog) t a b W
        have hls := fun (t : TypeId) (a b : ByteArray) (W : World) => lss_run (P := Try.prog) t a b W
        clear hi hx lx cx hw1
        by_cases hi0 : 0 < i
        · have dz : decide ((0 : Int) < (i : Int)) = true := decide_eq_true (by omega)
          have dzb : decide (0 < i) = true := decide_eq_true hi0
          obtain ⟨j, hj⟩ : ∃ j, i = j + 1 := ⟨i - 1, by omega⟩
          have hwm : wrap64 ((i : Int) - 1) = (j : Int) := w64_diff (b := 1) (by omega) (by have := HLen.out; have := HIL.out; omega)
          have hwmb : IntKind.i64.wrap ((i : Int) - 1) = (j : Int) := by rw [IntWalk.i64_left]; exact hwm
          have j1 : (0 ≤ (j : Int)) = True := eq_true (by omega)
          have j2 : ((j : Int) < (en : Int)) = True := eq_true (by have := HIL.out; omega)
          have j3 : (j < en) = True := eq_true (by have := HIL.out; omega)
          obtain ⟨y, hy⟩ : ∃ y, es[j]? = some y := ⟨_, List.getElem?_eq_getElem (by rw [HEN.out]; have := HIL.out; omega)⟩
          obtain ⟨ad', By, dy, hA', m0, _, _, _, _, _, _, ly, cy⟩ := at_en HCW.out hy
          obtain rfl : ad = ad' := Option.some.inj hA'
          have hcv2 := fun n_ : Nat => Kd.C_string (P := Try.prog) (A := By) (c := dy) Try.underlying23 Try.underlying5 Try.underlying9 (Kd.C_drewN cy n_)
          have hst : Op.bytesLess (strOfNums y.f0).toList (strOfNums x.f0).toList = true := by rw [str_lt, decide_eq_true (HRI.out j y x hy (by rw [← hj]; exact HXI.out))]
          clear hi0 hj hy hA' ly cy
          by_cases hip : i < p
          · have hst2 : Op.bytesLess (strOfNums x.f0).toList (strOfNums key).toList = true := by rw [str_lt, decide_eq_true ((HAT.out i x HXI.out).1 hip)]
            have HMI := Aside0.mk (show min (i + 1) p = i + 1 by omega)
            clear hip
            go_wp2
            go_quiet (fail)
            go_wp2
            go_quiet (fail)
            go_wp2
            go_roundg (en + 1 - (i + 1))
            case measure => have := HI.out.2; have := HIL.out; omega
            case rel => exact ⟨i + 1, by first | rfl | rw [HW1.out], by first | (rw [HMI.out]; rfl) | rw [HMI.out, HW1.out], ⟨HIL.out, rfl⟩, ⟨pw_below_drewN HB.out _⟩⟩
          · have hst2 : Op.bytesLess (strOfNums x.f0).toList (strOfNums key).toList = false := by rw [str_lt, decide_eq_false (by have h_ := (HAT.out i x HXI.out).2 (by omega); omega)]
            have HMI := Aside0.mk (show min (i + 1) p = p ∧ min i p = p by omega)
            rw [HMI.out.2]
            clear hip
            go_wp2
            go_quiet (fail)
            go_wp2
            go_quiet (fail)
            go_wp2
            go_roundg (en + 1 - (i + 1))
            case measure => have := HI.out.2; have := HIL.out; omega
            case rel => exact ⟨i + 1, by first | rfl | rw [HW1.out], by rw [HMI.out.1], ⟨HIL.out, rfl⟩, ⟨pw_below_drewN HB.out _⟩⟩
        · have dz : decide ((0 : Int) < (i : Int)) = false := decide_eq_false (by omega)
          have dzb : decide (0 < i) = false := decide_eq_false hi0
          clear hi0
          by_cases hip : i < p
          · have hst2 : Op.bytesLess (strOfNums x.f0).toList (strOfNums key).toList = true := by rw [str_lt, decide_eq_true ((HAT.out i x HXI.out).1 hip)]
            have HMI := Aside0.mk (show min (i + 1) p = i + 1 by omega)
            clear hip
            go_wp2
            go_quiet (fail)
            go_wp2
            go_quiet (fail)
            go_wp2
            go_roundg (en + 1 - (i + 1))
            case measure => have := HI.out.2; have := HIL.out; omega
            case rel => exact ⟨i + 1, by first | rfl | rw [HW1.out], by first | (rw [HMI.out]; rfl) | rw [HMI.out, HW1.out], ⟨HIL.out, rfl⟩, ⟨pw_below_drewN HB.out _⟩⟩
          · have hst2 : Op.bytesLess (strOfNums x.f0).toList (strOfNums key).toList = false := by rw [str_lt, decide_eq_false (by have h_ := (HAT.out i x HXI.out).2 (by omega); omega)]
            have HMI := Aside0.mk (show min (i + 1) p = p ∧ min i p = p by omega)
            rw [HMI.out.2]
            clear hip
            go_wp2
            go_quiet (fail)
            go_wp2
            go_quiet (fail)
            go_wp2
            go_roundg (en + 1 - (i + 1))
            case measure => have := HI.out.2; have := HIL.out; omega
            case rel => exact ⟨i + 1, by first | rfl | rw [HW1.out], by rw [HMI.out.1], ⟨HIL.out, rfl⟩, ⟨pw_below_drewN HB.out _⟩⟩
      · have d3 : decide ((i : Int) < (en : Int)) = false := decide_eq_false (by omega)
        have d3b : decide (i < en) = false := decide_eq_false hi
        have hmp : min i p = p := by have := HENP.out; omega
        rw [hmp]
        clear hi hmp
        have hw : wrap64 ((en : Int) - (p : Int)) = (yl : Int) := by
          have h1 := HENP.out; have h2 := HLen.out
          exact w64_diff (by omega) (by omega)
        have HW := Aside0.mk hw
        clear hw
        go_upto_region 16 with (fail)
        rw [HW.out]
        by_cases hmy : most < (yl : Int)
        · have dm4 : decide (most < (yl : Int)) = true := decide_eq_true hmy
          by_cases hm0 : most < 0
          · have dm5 : decide (most < 0) = true := decide_eq_true hm0
            have hz0 : (0 : Int) = (nn : Int) := by have := HNZ.out; rw [if_pos (by omega)] at this; exact this.symm
            have HZ0 := Aside0.mk hz0
            clear hmy hm0 hz0
            go_upto_region 20 with (fail)
            obtain ⟨z, hz⟩ : ∃ z : Int, z = 0 := ⟨_, rfl⟩
            rw [show Value.int IntKind.i64 0 = Value.int IntKind.i64 z by rw [hz]]
            have HZ := Aside0.mk (show z = (nn : Int) by rw [hz]; exact HZ0.out)
            clear hz
            obtain ⟨pI, hpI⟩ : ∃ q : Int, (p : Int) = q := ⟨_, rfl⟩
            rw [hpI]
            obtain ⟨hI, hhI⟩ : ∃ h : Int, wrap64 (pI + z) = h := ⟨_, rfl⟩
            have HPI := Aside0.mk hpI
            have HHI := Aside0.mk (show hI = ((p + nn : Nat) : Int) by rw [← hhI, HZ.out, ← hpI]; exact w64_sum (by have := HPN.out; omega))
            have d8 : ((nn : Int) == z) = true := by rw [HZ.out]; simp
            have d8b : decide ((nn : Int) = z) = true := decide_eq_true HZ.out.symm
            obtain ⟨i0, hi0⟩ : ∃ i, Try.prog.info? 38 = some i := ⟨_, rfl⟩
            have hi0s : i0.size = 7 := by
              have : (Try.prog.info? 38).map (·.size) = some 7 := by kernel_rfl
              rw [hi0] at this; exact Option.some.inj this
            have hsl := cut_mid (P := Try.prog) 22 38 .i64 .i64 Try.underlying22 hi0 7 hi0s A4 en d4 pI hI (by omega) (by rw [HHI.out]; omega) (by rw [HHI.out]; have := HPN.out; omega) HC4.out.2
            obtain ⟨A6, hA6⟩ : ∃ A', (if d4 = pI.toNat then A4 else A4.map (·.add (pI.toNat * 7))) = A' := ⟨_, rfl⟩
            obtain ⟨d6, hd6⟩ : ∃ d, d4 - pI.toNat = d := ⟨_, rfl⟩
            have hnl : hI.toNat - pI.toNat = nn := by rw [HHI.out]; omega
            rw [hA6, hd6, hnl] at hsl
            have HM := Aside0.mk (show ∀ W, Below w5.heap.size w5 W → k38.C W A6 nn L ∧ nn ≤ d6 from fun W hW => by
              have hc := Kd.C_mid (k := k38) (A := A4) (c := d4) (lo := p) (hi := p + nn) (xs := es) (w := W) (by rw [HEN.out]; exact Kd.C_below HC4.out.1 hW) (by omega) (by rw [HEN.out]; have := HPN.out; omega) (by rw [HEN.out]; exact HC4.out.2)
              rw [HLE.out, HNN.out] at hc
              refine ⟨?_, by rw [← hd6, ← hpI, Int.toNat_natCast]; have h1 := HC4.out.2; have h2 := HPN.out; omega⟩
              rw [← hA6, ← hpI, Int.toNat_natCast]
              exact hc)
            clear hi0 hi0s hA6 hd6 hnl hpI
            go_wp2_with (first
              | (go_at_call 9; refine (HAL.out _).mono ?_; rintro e w8 ⟨rfl, hb⟩; have HB8 := Aside0.mk (show Below w5.heap.size w5 w8 from HB.out.trans (hb.mono HB.out.size)); clear hb)
              | (go_at_call 11; refine (same_C A5 d5 A6 d6 L nn HNN.out HLL.out _ (Kd.C_below HC5.out.1 HB8.out) HC5.out.2 (HM.out _ HB8.out).1 (HM.out _ HB8.out).2).mono ?_; rintro e w9 ⟨rfl, hb⟩; have HB9 := Aside0.mk (show Below w.heap.size w w9 from (HBW.out.trans (HB8.out.mono HBW.out.size)).trans (hb.mono (Nat.le_trans HBW.out.size HB8.out.size))); clear hb))
            go_ret
            exact ⟨rfl, HB9.out⟩
          · have dm5 : decide (most < 0) = false := decide_eq_false hm0
            have hz0 : most = (nn : Int) := by
              have h_ := HNZ.out
              by_cases h1 : most < 1
              · rw [if_pos h1] at h_; omega
              · rw [if_neg h1, if_pos hmy] at h_; exact h_.symm
            have HZ0 := Aside0.mk hz0
            clear hmy hm0 hz0
            go_upto_region 20 with (fail)
            obtain ⟨z, hz⟩ : ∃ z : Int, most = z := ⟨_, rfl⟩
            rw [hz]
            have HZ := Aside0.mk (show z = (nn : Int) by rw [← hz]; exact HZ0.out)
            clear hz
            obtain ⟨pI, hpI⟩ : ∃ q : Int, (p : Int) = q := ⟨_, rfl⟩
            rw [hpI]
            obtain ⟨hI, hhI⟩ : ∃ h : Int, wrap64 (pI + z) = h := ⟨_, rfl⟩
            have HPI := Aside0.mk hpI
            have HHI := Aside0.mk (show hI = ((p + nn : Nat) : Int) by rw [← hhI, HZ.out, ← hpI]; exact w64_sum (by have := HPN.out; omega))
            have d8 : ((nn : Int) == z) = true := by rw [HZ.out]; simp
            have d8b : decide ((nn : Int) = z) = true := decide_eq_true HZ.out.symm
            obtain ⟨i0, hi0⟩ : ∃ i, Try.prog.info? 38 = some i := ⟨_, rfl⟩
            have hi0s : i0.size = 7 := by
              have : (Try.prog.info? 38).map (·.size) = some 7 := by kernel_rfl
              rw [hi0] at this; exact Option.some.inj this
            have hsl := cut_mid (P := Try.prog) 22 38 .i64 .i64 Try.underlying22 hi0 7 hi0s A4 en d4 pI hI (by omega) (by rw [HHI.out]; omega) (by rw [HHI.out]; have := HPN.out; omega) HC4.out.2
            obtain ⟨A6, hA6⟩ : ∃ A', (if d4 = pI.toNat then A4 else A4.map (·.add (pI.toNat * 7))) = A' := ⟨_, rfl⟩
            obtain ⟨d6, hd6⟩ : ∃ d, d4 - pI.toNat = d := ⟨_, rfl⟩
            have hnl : hI.toNat - pI.toNat = nn := by rw [HHI.out]; omega
            rw [hA6, hd6, hnl] at hsl
            have HM := Aside0.mk (show ∀ W, Below w5.heap.size w5 W → k38.C W A6 nn L ∧ nn ≤ d6 from fun W hW => by
              have hc := Kd.C_mid (k := k38) (A := A4) (c := d4) (lo := p) (hi := p + nn) (xs := es) (w := W) (by rw [HEN.out]; exact Kd.C_below HC4.out.1 hW) (by omega) (by rw [HEN.out]; have := HPN.out; omega) (by rw [HEN.out]; exact HC4.out.2)
              rw [HLE.out, HNN.out] at hc
              refine ⟨?_, by rw [← hd6, ← hpI, Int.toNat_natCast]; have h1 := HC4.out.2; have h2 := HPN.out; omega⟩
              rw [← hA6, ← hpI, Int.toNat_natCast]
              exact hc)
            clear hi0 hi0s hA6 hd6 hnl hpI
            go_wp2_with (first
              | (go_at_call 9; refine (HAL.out _).mono ?_; rintro e w8 ⟨rfl, hb⟩; have HB8 := Aside0.mk (show Below w5.heap.size w5 w8 from HB.out.trans (hb.mono HB.out.size)); clear hb)
              | (go_at_call 11; refine (same_C A5 d5 A6 d6 L nn HNN.out HLL.out _ (Kd.C_below HC5.out.1 HB8.out) HC5.out.2 (HM.out _ HB8.out).1 (HM.out _ HB8.out).2).mono ?_; rintro e w9 ⟨rfl, hb⟩; have HB9 := Aside0.mk (show Below w.heap.size w w9 from (HBW.out.trans (HB8.out.mono HBW.out.size)).trans (hb.mono (Nat.le_trans HBW.out.size HB8.out.size))); clear hb))
            go_ret
            exact ⟨rfl, HB9.out⟩
        · have dm4 : decide (most < (yl : Int)) = false := decide_eq_false hmy
          have dm5 : decide ((yl : Int) < 0) = false := decide_eq_false (by omega)
          have dm5b : ((yl : Int) < 0) = False := eq_false (by omega)
          have hz0 : (yl : Int) = (nn : Int) := by
            have h_ := HNZ.out
            by_cases h1 : most < 1
            · rw [if_pos h1] at h_; omega
            · rw [if_neg h1, if_neg hmy] at h_; exact h_.symm
          have HZ0 := Aside0.mk hz0
          clear hmy hz0
          go_upto_region 20 with (fail)
          obtain ⟨z, hz⟩ : ∃ z : Int, (yl : Int) = z := ⟨_, rfl⟩
          rw [hz]
          have HZ := Aside0.mk (show z = (nn : Int) by rw [← hz]; exact HZ0.out)
          clear hz
          obtain ⟨pI, hpI⟩ : ∃ q : Int, (p : Int) = q := ⟨_, rfl⟩
          rw [hpI]
          obtain ⟨hI, hhI⟩ : ∃ h : Int, wrap64 (pI + z) = h := ⟨_, rfl⟩
          have HPI := Aside0.mk hpI
          have HHI := Aside0.mk (show hI = ((p + nn : Nat) : Int) by rw [← hhI, HZ.out, ← hpI]; exact w64_sum (by have := HPN.out; omega))
          have d8 : ((nn : Int) == z) = true := by rw [HZ.out]; simp
          have d8b : decide ((nn : Int) = z) = true := decide_eq_true HZ.out.symm
          obtain ⟨i0, hi0⟩ : ∃ i, Try.prog.info? 38 = some i := ⟨_, rfl⟩
          have hi0s : i0.size = 7 := by
            have : (Try.prog.info? 38).map (·.size) = some 7 := by kernel_rfl
            rw [hi0] at this; exact Option.some.inj this
          have hsl := cut_mid (P := Try.prog) 22 38 .i64 .i64 Try.underlying22 hi0 7 hi0s A4 en d4 pI hI (by omega) (by rw [HHI.out]; omega) (by rw [HHI.out]; have := HPN.out; omega) HC4.out.2
          obtain ⟨A6, hA6⟩ : ∃ A', (if d4 = pI.toNat then A4 else A4.map (·.add (pI.toNat * 7))) = A' := ⟨_, rfl⟩
          obtain ⟨d6, hd6⟩ : ∃ d, d4 - pI.toNat = d := ⟨_, rfl⟩
          have hnl : hI.toNat - pI.toNat = nn := by rw [HHI.out]; omega
          rw [hA6, hd6, hnl] at hsl
          have HM := Aside0.mk (show ∀ W, Below w5.heap.size w5 W → k38.C W A6 nn L ∧ nn ≤ d6 from fun W hW => by
            have hc := Kd.C_mid (k := k38) (A := A4) (c := d4) (lo := p) (hi := p + nn) (xs := es) (w := W) (by rw [HEN.out]; exact Kd.C_below HC4.out.1 hW) (by omega) (by rw [HEN.out]; have := HPN.out; omega) (by rw [HEN.out]; exact HC4.out.2)
            rw [HLE.out, HNN.out] at hc
            refine ⟨?_, by rw [← hd6, ← hpI, Int.toNat_natCast]; have h1 := HC4.out.2; have h2 := HPN.out; omega⟩
            rw [← hA6, ← hpI, Int.toNat_natCast]
            exact hc)
          clear hi0 hi0s hA6 hd6 hnl hpI
          go_wp2_with (first
            | (go_at_call 9; refine (HAL.out _).mono ?_; rintro e w8 ⟨rfl, hb⟩; have HB8 := Aside0.mk (show Below w5.heap.size w5 w8 from HB.out.trans (hb.mono HB.out.size)); clear hb)
            | (go_at_call 11; refine (same_C A5 d5 A6 d6 L nn HNN.out HLL.out _ (Kd.C_below HC5.out.1 HB8.out) HC5.out.2 (HM.out _ HB8.out).1 (HM.out _ HB8.out).2).mono ?_; rintro e w9 ⟨rfl, hb⟩; have HB9 := Aside0.mk (show Below w.heap.size w w9 from (HBW.out.trans (HB8.out.mono HBW.out.size)).trans (hb.mono (Nat.le_trans HBW.out.size HB8.out.size))); clear hb))
          go_ret
          exact ⟨rfl, HB9.out⟩
theorem SkipRises_row (A0 : Option Addr) (c0 : Nat) (l : List En) (A1 : Option Addr) (c1 : Nat) (hs : List Int) (A2 : Option Addr) (c2 : Nat) (key : List Int) (most : Int) (w : World) (hr : Kd.C k38 w A0 l.length l) (_ : l.length ≤ c0) (hok : ∀ x ∈ l, OkEn x) (hh : Kd.C (Kd.int .u8) w A1 hs.length hs) (_ : hs.length ≤ c1) (_ : ∀ x ∈ hs, 0 ≤ x ∧ x < 256) (ho : Kd.C (Kd.int .u8) w A2 key.length key) (hoc : key.length ≤ c2) (_ : ∀ x ∈ key, 0 ≤ x ∧ x < 256) (_ : (Lit.int .i64 most).wf = true) :
    Calls Try.prog 4 #[.slice A0 l.length c0, .slice A1 hs.length c1, .slice A2 key.length c2, .int .i64 most] w fun e w' => e = .returned (.bool true) ∧ Below w.heap.size w w' :=
  SkipRises_walk A0 c0 l A1 c1 hs A2 c2 key most w hr hok hh ho hoc
end Go.Proofs.Yteomanpaladdjaa.P
