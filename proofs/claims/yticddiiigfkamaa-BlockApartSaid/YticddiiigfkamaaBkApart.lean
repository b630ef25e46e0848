/- BlockApart: the law's function, walked. No conditions. -/
import Derived.Test.YticddiiigfkamaaBkPureA
import Derived.Test.YticddiiigfkamaaCmpOrd
namespace Go.Proofs.Yticddiiigfkamaa.P
open Go.RowKit Go.Proofs.YticddiiigfkamaaW.PrintWords Go.Proofs.YticddiiigfkamaaW.PrintLast Go.Proofs.YticddiiigfkamaaW.PrintMore
set_option linter.unusedVariables false
set_option linter.unusedSimpArgs false

theorem great_is (l : List Pr) : ∃ g : Bool, (g = true ∨ l.length ≤ 5000) ∧ rickyardlaw09_great.f (l.length + 2) l = some g := by
  rcases Pure.great_f l (l.length + 2) (by omega) with h | ⟨hl, g, h⟩
  · exact ⟨true, .inl rfl, h⟩
  · exact ⟨g, .inr hl, h⟩
theorem great_calls {A : Option Addr} {c : Nat} {l : List Pr} {g : Bool} (hg : rickyardlaw09_great.f (l.length + 2) l = some g) (w : World) (hr : Kd.C k39 w A l.length l) (hc : l.length ≤ c) :
    Calls Try.prog 9 #[.slice A l.length c] w fun e w' => e = .returned (.bool g) ∧ Below w.heap.size w w' := by
  refine (rickyardlaw09_great.calls (l.length + 2) A c l g w hr hc hg).mono ?_
  rintro e w' ⟨rfl, hd⟩
  exact ⟨rfl, hd.below⟩
theorem cell_u8 {W : World} {A : Option Addr} {l : List Int} (h : Kd.C (Kd.int .u8) W A l.length l) {i : Nat} {x : Int} (hx : l[i]? = some x) : ∃ ad, A = some ad ∧ W.cell? (ad.add i) = some (.int .u8 x) := by
  have hi := (List.getElem?_eq_some_iff.1 hx).1
  obtain ⟨_, _, hc⟩ := Kd.reads_of_C (d := (0 : Int)) h
  obtain ⟨ad, e, hc⟩ := hc (by omega)
  refine ⟨ad, e, ?_⟩
  have h_ := hc i hi
  rw [h_]
  simp [rdOf, hx, List.getD_eq_getElem?_getD]
set_option maxHeartbeats 8000000 in
set_option maxRecDepth 100000 in
theorem BlockApart_walk (A0 : Option Addr) (c0 : Nat) (l0 : List Pr) (A1 : Option Addr) (c1 : Nat) (l1 : List Pr) (A2 : Option Addr) (c2 : Nat) (a : List Int) (A3 : Option Addr) (c3 : Nat) (b : List Int) (w : World)
    (hr0 : Kd.C k39 w A0 l0.length l0) (hc0 : l0.length ≤ c0) (hb0 : ∀ p ∈ l0, (∀ x ∈ p.f0, 0 ≤ x ∧ x < 256) ∧ ∀ x ∈ p.f1, 0 ≤ x ∧ x < 256)
    (hr1 : Kd.C k39 w A1 l1.length l1) (hc1 : l1.length ≤ c1) (hb1 : ∀ p ∈ l1, (∀ x ∈ p.f0, 0 ≤ x ∧ x < 256) ∧ ∀ x ∈ p.f1, 0 ≤ x ∧ x < 256)
    (hr2 : Kd.C (Kd.int .u8) w A2 a.length a) (hc2 : a.length ≤ c2) (hb2 : ∀ x ∈ a, 0 ≤ x ∧ x < 256) (hr3 : Kd.C (Kd.int .u8) w A3 b.length b) (hc3 : b.length ≤ c3) (hb3 : ∀ x ∈ b, 0 ≤ x ∧ x < 256) :
    Calls Try.prog 6 #[.slice A0 l0.length c0, .slice A1 l1.length c1, .slice A2 a.length c2, .slice A3 b.length c3] w fun e w' => e = .returned (.bool true) ∧ Below w.heap.size w w' := by
  obtain ⟨g0, hg0, hf0⟩ := great_is l0
  obtain ⟨g1, hg1, hf1⟩ := great_is l1
  have HG0 := Aside0.mk (fun W (hb : Below w.heap.size w W) => great_calls hf0 W (Kd.C_below hr0 hb) hc0)
  have HG1 := Aside0.mk (fun W (hb : Below w.heap.size w W) => great_calls hf1 W (Kd.C_below hr1 hb) hc1)
  have HB0 := Aside0.mk (Below.refl w.heap.size w)
  have HAL := Aside0.mk (fun W => rickyardlaw09_alive.calls true W rfl)
  obtain ⟨i5, hi5, hzz⟩ := Option.map_eq_some_iff.1 info5
  simp only [Prod.mk.injEq] at hzz
  have HI5 := Aside0.mk (And.intro hi5 hzz.2.1)
  clear hf0 hf1 hi5 hzz
  cases g0 with
  | true =>
    clear hg0 hg1 hr0 hr1 hr2 hr3
    go_enter Try.func6, Try.ntmps6
    go_wp2_with (first
      | ((with_reducible refine gate_callee (f := 10) rfl ?_); refine goesL_ (some 30) rfl rfl Try.func10 (by kernel_rfl) rfl #[] rfl (by (try simp only [List.map_toArray, List.map_cons, List.map_nil]); first | done | rfl | (simp only [List.length_drop, List.length_take]; rfl)) ?_; refine (HAL.out _).mono ?_; rintro e w9 ⟨rfl, hb⟩; have HB9 := Aside0.mk (HB2.out.trans (hb.mono HB2.out.size)); clear hb; refine ⟨_, rfl, ?_⟩)
      | (go_at_call 9; refine (HG1.out _ HB2.out).mono ?_; rintro e w3 ⟨rfl, hb⟩; have HB3 := Aside0.mk (HB2.out.trans (hb.mono HB2.out.size)); clear hb) | ((with_reducible refine gate_callee (f := 9) rfl ?_); refine goesL_ (some 15) rfl rfl Try.func9 (by kernel_rfl) rfl #[.slice A0 l0.length c0] rfl (by (try simp only [List.map_toArray, List.map_cons, List.map_nil]); first | done | rfl | (simp only [List.length_drop, List.length_take]; rfl)) ?_; refine (HG0.out _ HB0.out).mono ?_; rintro e w2 ⟨rfl, hb⟩; have HB2 := Aside0.mk hb; clear hb; refine ⟨_, rfl, ?_⟩))
    go_ret
    exact ⟨rfl, HB9.out⟩
  | false =>
  have hl0 : l0.length ≤ 5000 := by rcases hg0 with h | h; cases h; exact h
  cases g1 with
  | true =>
    clear hg0 hg1 hr0 hr1 hr2 hr3 hl0
    go_enter Try.func6, Try.ntmps6
    go_wp2_with (first
      | ((with_reducible refine gate_callee (f := 10) rfl ?_); refine goesL_ (some 30) rfl rfl Try.func10 (by kernel_rfl) rfl #[] rfl (by (try simp only [List.map_toArray, List.map_cons, List.map_nil]); first | done | rfl | (simp only [List.length_drop, List.length_take]; rfl)) ?_; refine (HAL.out _).mono ?_; rintro e w9 ⟨rfl, hb⟩; have HB9 := Aside0.mk (HB3.out.trans (hb.mono HB3.out.size)); clear hb; refine ⟨_, rfl, ?_⟩)
      | (go_at_call 9; refine (HG1.out _ HB2.out).mono ?_; rintro e w3 ⟨rfl, hb⟩; have HB3 := Aside0.mk (HB2.out.trans (hb.mono HB2.out.size)); clear hb) | ((with_reducible refine gate_callee (f := 9) rfl ?_); refine goesL_ (some 15) rfl rfl Try.func9 (by kernel_rfl) rfl #[.slice A0 l0.length c0] rfl (by (try simp only [List.map_toArray, List.map_cons, List.map_nil]); first | done | rfl | (simp only [List.length_drop, List.length_take]; rfl)) ?_; refine (HG0.out _ HB0.out).mono ?_; rintro e w2 ⟨rfl, hb⟩; have HB2 := Aside0.mk hb; clear hb; refine ⟨_, rfl, ?_⟩))
    go_ret
    exact ⟨rfl, HB9.out⟩
  | false =>
  by_cases ha : 1000 < a.length
  · have d1 : decide (1000 < (a.length : Int)) = true := decide_eq_true (by omega)
    clear hg0 hg1 hr0 hr1 hr2 hr3 hl0 ha
    go_enter Try.func6, Try.ntmps6
    go_wp2_with (first
      | ((with_reducible refine gate_callee (f := 10) rfl ?_); refine goesL_ (some 30) rfl rfl Try.func10 (by kernel_rfl) rfl #[] rfl (by (try simp only [List.map_toArray, List.map_cons, List.map_nil]); first | done | rfl | (simp only [List.length_drop, List.length_take]; rfl)) ?_; refine (HAL.out _).mono ?_; rintro e w9 ⟨rfl, hb⟩; have HB9 := Aside0.mk (HB3.out.trans (hb.mono HB3.out.size)); clear hb; refine ⟨_, rfl, ?_⟩)
      | (go_at_call 9; refine (HG1.out _ HB2.out).mono ?_; rintro e w3 ⟨rfl, hb⟩; have HB3 := Aside0.mk (HB2.out.trans (hb.mono HB2.out.size)); clear hb) | ((with_reducible refine gate_callee (f := 9) rfl ?_); refine goesL_ (some 15) rfl rfl Try.func9 (by kernel_rfl) rfl #[.slice A0 l0.length c0] rfl (by (try simp only [List.map_toArray, List.map_cons, List.map_nil]); first | done | rfl | (simp only [List.length_drop, List.length_take]; rfl)) ?_; refine (HG0.out _ HB0.out).mono ?_; rintro e w2 ⟨rfl, hb⟩; have HB2 := Aside0.mk hb; clear hb; refine ⟨_, rfl, ?_⟩))
    go_ret
    exact ⟨rfl, HB9.out⟩
  have d1 : decide (1000 < (a.length : Int)) = false := decide_eq_false (by omega)
  by_cases hb : 1000 < b.length
  · have d2 : decide (1000 < (b.length : Int)) = true := decide_eq_true (by omega)
    clear hg0 hg1 hr0 hr1 hr2 hr3 hl0 ha hb
    go_enter Try.func6, Try.ntmps6
    go_wp2_with (first
      | ((with_reducible refine gate_callee (f := 10) rfl ?_); refine goesL_ (some 30) rfl rfl Try.func10 (by kernel_rfl) rfl #[] rfl (by (try simp only [List.map_toArray, List.map_cons, List.map_nil]); first | done | rfl | (simp only [List.length_drop, List.length_take]; rfl)) ?_; refine (HAL.out _).mono ?_; rintro e w9 ⟨rfl, hb⟩; have HB9 := Aside0.mk (HB3.out.trans (hb.mono HB3.out.size)); clear hb; refine ⟨_, rfl, ?_⟩)
      | (go_at_call 9; refine (HG1.out _ HB2.out).mono ?_; rintro e w3 ⟨rfl, hb⟩; have HB3 := Aside0.mk (HB2.out.trans (hb.mono HB2.out.size)); clear hb) | ((with_reducible refine gate_callee (f := 9) rfl ?_); refine goesL_ (some 15) rfl rfl Try.func9 (by kernel_rfl) rfl #[.slice A0 l0.length c0] rfl (by (try simp only [List.map_toArray, List.map_cons, List.map_nil]); first | done | rfl | (simp only [List.length_drop, List.length_take]; rfl)) ?_; refine (HG0.out _ HB0.out).mono ?_; rintro e w2 ⟨rfl, hb⟩; have HB2 := Aside0.mk hb; clear hb; refine ⟨_, rfl, ?_⟩))
    go_ret
    exact ⟨rfl, HB9.out⟩
  have d2 : decide (1000 < (b.length : Int)) = false := decide_eq_false (by omega)
  obtain ⟨n, hn⟩ : ∃ n, cmn a b = n := ⟨_, rfl⟩
  have hna : n ≤ a.length := by rw [← hn]; exact (cmn_le a b).1
  have hnb : n ≤ b.length := by rw [← hn]; exact (cmn_le a b).2
  have hcm := fun W (hb : Below w.heap.size w W) (q : Nat) => cmn_quiet (w := W) (c0 := c3) (c1 := c2) (Kd.C_below hr3 hb) hc3 (Kd.C_below hr2 hb) hc2 (by omega) q
  rw [cmn_comm b a, hn] at hcm
  have hcc := fun W (hb : Below w.heap.size w W) => block_Common.calls (a.length + 1) A2 c2 a A3 c3 b _ W (Kd.C_below hr2 hb) hc2 (Kd.C_below hr3 hb) hc3 (common_f a b (by omega) _ (by omega))
  rw [hn] at hcc
  have HCM := Aside0.mk hcm
  have HCC := Aside0.mk hcc
  have HAB := Aside0.mk (show n ≤ a.length ∧ n ≤ b.length ∧ a.length ≤ 1000 ∧ b.length ≤ 1000 ∧ cmn a b = n from ⟨hna, hnb, by omega, by omega, hn⟩)
  have HL0 := Aside0.mk hl0
  have HR0 := Aside0.mk (fun W (hb : Below w.heap.size w W) => Kd.C_below hr0 hb)
  have HR1 := Aside0.mk (fun W (hb : Below w.heap.size w W) => Kd.C_below hr1 hb)
  have HR10 := Aside0.mk hr1
  have HR2 := Aside0.mk (fun W (hb : Below w.heap.size w W) => Kd.C_below hr2 hb)
  have HR3 := Aside0.mk (fun W (hb : Below w.heap.size w W) => Kd.C_below hr3 hb)
  have HC0 := Aside0.mk (And.intro hc0 hc1)
  have HC2 := Aside0.mk (And.intro hc2 hc3)
  have HY := Aside0.mk (And.intro hb0 hb1)
  have HL1 := Aside0.mk (show l1.length ≤ 5000 by rcases hg1 with h | h; cases h; exact h)
  clear hcm hcc hn hna hnb ha hb hl0 hg0 hg1 hr0 hr1 hr2 hr3 hc0 hc1 hc2 hc3 hb0 hb1 hb2 hb3
  go_enter Try.func6, Try.ntmps6
  go_upto_region 4 with (first
    | ((with_reducible refine gate_callee (f := 14) rfl ?_); refine goesL_ (some 33) rfl rfl Try.func14 (by kernel_rfl) rfl #[.slice A2 a.length c2, .slice A3 b.length c3] rfl (by (try simp only [List.map_toArray, List.map_cons, List.map_nil]); first | done | rfl | (simp only [List.length_drop, List.length_take]; rfl)) ?_; refine (HCC.out _ HB3.out).mono ?_; rintro e w4 ⟨rfl, hd⟩; have HB4 := Aside0.mk (HB3.out.trans (hd.below.mono HB3.out.size)); clear hd; refine ⟨_, rfl, ?_⟩)
    | (go_at_call 9; refine (HG1.out _ HB2.out).mono ?_; rintro e w3 ⟨rfl, hb⟩; have HB3 := Aside0.mk (HB2.out.trans (hb.mono HB2.out.size)); clear hb) | ((with_reducible refine gate_callee (f := 9) rfl ?_); refine goesL_ (some 15) rfl rfl Try.func9 (by kernel_rfl) rfl #[.slice A0 l0.length c0] rfl (by (try simp only [List.map_toArray, List.map_cons, List.map_nil]); first | done | rfl | (simp only [List.length_drop, List.length_take]; rfl)) ?_; refine (HG0.out _ HB0.out).mono ?_; rintro e w2 ⟨rfl, hb⟩; have HB2 := Aside0.mk hb; clear hb; refine ⟨_, rfl, ?_⟩))
  go_cut [84] (fun v84 wc => v84 = .bool false ∧ Aside0 (Below w.heap.size w wc))
  case first =>
    obtain ⟨z1, z2, z3, z4, z5⟩ := HAB.out
    obtain ⟨cut2, cut2r, cut2l⟩ := print_take_of (P := Try.prog) (Value.int .u8) (0 : Int) 23 5 .i64 Try.underlying23 HI5.out.1 HI5.out.2 A2 c2 a (n : Int) (by omega) (by omega) HC2.out.1
    obtain ⟨cut3, cut3r, cut3l⟩ := print_take_of (P := Try.prog) (Value.int .u8) (0 : Int) 23 5 .i64 Try.underlying23 HI5.out.1 HI5.out.2 A3 c3 b (n : Int) (by omega) (by omega) HC2.out.2
    have hta : (a.take n).length = n := by rw [List.length_take]; omega
    have htb : (b.take n).length = n := by rw [List.length_take]; omega
    rw [Int.toNat_natCast, hta] at cut2 cut2r
    rw [Int.toNat_natCast, htb] at cut3 cut3r
    have hca2 : ∀ W, Below w.heap.size w W → Kd.C (Kd.int .u8) W A2 (a.take n).length (a.take n) := fun W hb => by rw [hta]; exact Kd.C_of_reads (d := (0 : Int)) (h1 := fun _ => rfl) (cut2r W (Kd.reads_of_C (HR2.out W hb)))
    have hca3 : ∀ W, Below w.heap.size w W → Kd.C (Kd.int .u8) W A3 (b.take n).length (b.take n) := fun W hb => by rw [htb]; exact Kd.C_of_reads (d := (0 : Int)) (h1 := fun _ => rfl) (cut3r W (Kd.reads_of_C (HR3.out W hb)))
    have hcv2 := fun n_ : Nat => Kd.C_string (P := Try.prog) (A := A2) (c := c2) Try.underlying23 Try.underlying5 Try.underlying9 (hca2 (w4.drewN n_) (pw_below_drewN HB4.out n_))
    have hcv3 := fun n_ : Nat => Kd.C_string (P := Try.prog) (A := A3) (c := c3) Try.underlying23 Try.underlying5 Try.underlying9 (hca3 (w4.drewN n_) (pw_below_drewN HB4.out n_))
    rw [hta] at hcv2
    rw [htb, show b.take n = a.take n by rw [← z5]; exact (cmn_take a b).symm] at hcv3
    have HQ := Aside0.mk (fun q => HCM.out w4 HB4.out q)
    have q1 : decide ((a.length : Int) < (n : Int)) = false := decide_eq_false (by omega)
    have q2 : decide ((b.length : Int) < (n : Int)) = false := decide_eq_false (by omega)
    have q1b : decide (a.length < n) = false := decide_eq_false (by omega)
    have q2b : decide (b.length < n) = false := decide_eq_false (by omega)
    by_cases ha : n < a.length
    · have q3 : decide ((n : Int) < (a.length : Int)) = true := decide_eq_true (by omega)
      have q3b : decide (n < a.length) = true := decide_eq_true ha
      by_cases hb : n < b.length
      · have q4 : decide ((n : Int) < (b.length : Int)) = true := decide_eq_true (by omega)
        have q4b : decide (n < b.length) = true := decide_eq_true hb
        obtain ⟨x, hx⟩ : ∃ x, a[n]? = some x := ⟨_, List.getElem?_eq_getElem ha⟩
        obtain ⟨y, hy⟩ : ∃ y, b[n]? = some y := ⟨_, List.getElem?_eq_getElem hb⟩
        have hxy : (x == y) = false := beq_eq_false_iff_ne.2 (fun e => by
          have h_ := cmn_next a b (by rw [z5]; exact ha) (by rw [z5]; exact hb)
          rw [z5, hx, hy, e] at h_
          exact h_ rfl)
        obtain ⟨ad, eA, hcA⟩ := cell_u8 (HR2.out w4 HB4.out) hx
        obtain ⟨bd, eB, hcB⟩ := cell_u8 (HR3.out w4 HB4.out) hy
        subst eA
        subst eB
        have i1 : (0 ≤ (n : Int)) = True := eq_true (by omega)
        have i2 : ((n : Int) < (a.length : Int)) = True := eq_true (by omega)
        have i3 : (n < a.length) = True := eq_true ha
        have i4 : ((n : Int) < (b.length : Int)) = True := eq_true (by omega)
        have i5 : (n < b.length) = True := eq_true hb
        clear z1 z2 z3 z4 z5 cut2r cut3r cut2l cut3l hta htb hca2 hca3 ha hb hx hy
        go_wp2
        go_quiet ((go_at_call 14; exact HQ.out _))
        go_wp2
        go_meet
        case rel => exact ⟨rfl, ⟨by repeat (first | exact HB4.out | apply pw_below_drewN | apply below_drew1)⟩⟩
      · have q4 : decide ((n : Int) < (b.length : Int)) = false := decide_eq_false (by omega)
        have q4b : decide (n < b.length) = false := decide_eq_false hb
        clear z1 z2 z3 z4 z5 cut2r cut3r cut2l cut3l hta htb hca2 hca3 ha hb
        go_wp2
        go_quiet ((go_at_call 14; exact HQ.out _))
        go_wp2
        go_meet
        case rel => exact ⟨rfl, ⟨by repeat (first | exact HB4.out | apply pw_below_drewN | apply below_drew1)⟩⟩
    · have q3 : decide ((n : Int) < (a.length : Int)) = false := decide_eq_false (by omega)
      have q3b : decide (n < a.length) = false := decide_eq_false ha
      clear z1 z2 z3 z4 z5 cut2r cut3r cut2l cut3l hta htb hca2 hca3 ha
      go_wp2
      go_quiet ((go_at_call 14; exact HQ.out _))
      go_wp2
      go_meet
      case rel => exact ⟨rfl, ⟨by repeat (first | exact HB4.out | apply pw_below_drewN | apply below_drew1)⟩⟩
  case rest =>
    clear HB2 HB3 HB4
    obtain ⟨rfl, HB5⟩ := hcut
    obtain ⟨xw, xe, hxw⟩ : ∃ xw xe, block_Write.f l0 = some (xw, xe) := ⟨_, _, rfl⟩
    obtain ⟨yw, ye, hyw⟩ : ∃ yw ye, block_Write.f l1 = some (yw, ye) := ⟨_, _, rfl⟩
    have HWX := Aside0.mk (fun W (hb : Below w.heap.size w W) => block_Write.calls A0 c0 l0 xw xe W (HR0.out W hb) HC0.out.1 hxw)
    have HWY := Aside0.mk (fun W (hb : Below w.heap.size w W) => block_Write.calls A1 c1 l1 yw ye W (HR1.out W hb) HC0.out.2 hyw)
    have HXY := Aside0.mk (And.intro hxw hyw)
    clear hxw hyw
    by_cases hz : xe = 0 ∧ ye = 0
    case neg =>
      have HZ := Aside0.mk hz
      by_cases hx : xe = 0
      · have g1 : (xe != 0) = false := bne_eq_false_iff_eq.2 hx
        have g1b : (xe == 0) = true := beq_iff_eq.2 hx
        have hy : ye ≠ 0 := fun h => hz ⟨hx, h⟩
        have g2 : (ye != 0) = true := bne_iff_ne.2 hy
        have g2b : (ye == 0) = false := beq_eq_false_iff_ne.2 hy
        clear hz hx hy
        go_wp2_with (first
          | ((with_reducible refine gate_callee (f := 10) rfl ?_); refine goesL_ (some 101) rfl rfl Try.func10 (by kernel_rfl) rfl #[] rfl (by (try simp only [List.map_toArray, List.map_cons, List.map_nil]); first | done | rfl | (simp only [List.length_drop, List.length_take]; rfl)) ?_; refine (HAL.out _).mono ?_; rintro e w9 ⟨rfl, hb⟩; have HB9 := Aside0.mk (HB7.out.trans (hb.mono HB7.out.size)); clear hb; refine ⟨_, rfl, ?_⟩)
          | ((with_reducible refine gate_callee (f := 11) rfl ?_); refine goesL_ (some 92) rfl rfl Try.func11 (by kernel_rfl) rfl #[.slice A1 l1.length c1] rfl (by (try simp only [List.map_toArray, List.map_cons, List.map_nil]); first | done | rfl | (simp only [List.length_drop, List.length_take]; rfl)) ?_; refine (HWY.out _ HB6.out).mono ?_; rintro e w7 ⟨v7, rfl, hR, hb⟩; have HB7 := Aside0.mk (HB6.out.trans (hb.mono HB6.out.size)); clear hR hb; refine ⟨_, rfl, ?_⟩)
          | ((with_reducible refine gate_callee (f := 11) rfl ?_); refine goesL_ (some 87) rfl rfl Try.func11 (by kernel_rfl) rfl #[.slice A0 l0.length c0] rfl (by (try simp only [List.map_toArray, List.map_cons, List.map_nil]); first | done | rfl | (simp only [List.length_drop, List.length_take]; rfl)) ?_; refine (HWX.out _ HB5.out).mono ?_; rintro e w6 ⟨v6, rfl, hR, hb⟩; have HB6 := Aside0.mk (HB5.out.trans (hb.mono HB5.out.size)); clear hR hb; refine ⟨_, rfl, ?_⟩))
        go_ret
        exact ⟨rfl, HB9.out⟩
      · have g1 : (xe != 0) = true := bne_iff_ne.2 hx
        have g1b : (xe == 0) = false := beq_eq_false_iff_ne.2 hx
        clear hz hx
        go_wp2_with (first
          | ((with_reducible refine gate_callee (f := 10) rfl ?_); refine goesL_ (some 101) rfl rfl Try.func10 (by kernel_rfl) rfl #[] rfl (by (try simp only [List.map_toArray, List.map_cons, List.map_nil]); first | done | rfl | (simp only [List.length_drop, List.length_take]; rfl)) ?_; refine (HAL.out _).mono ?_; rintro e w9 ⟨rfl, hb⟩; have HB9 := Aside0.mk (HB7.out.trans (hb.mono HB7.out.size)); clear hb; refine ⟨_, rfl, ?_⟩)
          | ((with_reducible refine gate_callee (f := 11) rfl ?_); refine goesL_ (some 92) rfl rfl Try.func11 (by kernel_rfl) rfl #[.slice A1 l1.length c1] rfl (by (try simp only [List.map_toArray, List.map_cons, List.map_nil]); first | done | rfl | (simp only [List.length_drop, List.length_take]; rfl)) ?_; refine (HWY.out _ HB6.out).mono ?_; rintro e w7 ⟨v7, rfl, hR, hb⟩; have HB7 := Aside0.mk (HB6.out.trans (hb.mono HB6.out.size)); clear hR hb; refine ⟨_, rfl, ?_⟩)
          | ((with_reducible refine gate_callee (f := 11) rfl ?_); refine goesL_ (some 87) rfl rfl Try.func11 (by kernel_rfl) rfl #[.slice A0 l0.length c0] rfl (by (try simp only [List.map_toArray, List.map_cons, List.map_nil]); first | done | rfl | (simp only [List.length_drop, List.length_take]; rfl)) ?_; refine (HWX.out _ HB5.out).mono ?_; rintro e w6 ⟨v6, rfl, hR, hb⟩; have HB6 := Aside0.mk (HB5.out.trans (hb.mono HB5.out.size)); clear hR hb; refine ⟨_, rfl, ?_⟩))
        go_ret
        exact ⟨rfl, HB9.out⟩
    obtain ⟨rfl, rfl⟩ := hz
    have hx0 := HXY.out.1
    have hy0 := HXY.out.2
    have hxr : rightE l0 = 0 := by
      rw [show block_Write.f l0 = some (if rightE l0 = 0 then (encTo l0 l0.length, 0) else ([], rightE l0)) from rfl] at hx0
      by_cases h : rightE l0 = 0
      · exact h
      · rw [if_neg h] at hx0; simp only [Option.some.injEq, Prod.mk.injEq] at hx0; exact absurd hx0.2 h
    have hyr : rightE l1 = 0 := by
      rw [show block_Write.f l1 = some (if rightE l1 = 0 then (encTo l1 l1.length, 0) else ([], rightE l1)) from rfl] at hy0
      by_cases h : rightE l1 = 0
      · exact h
      · rw [if_neg h] at hy0; simp only [Option.some.injEq, Prod.mk.injEq] at hy0; exact absurd hy0.2 h
    obtain ⟨r, hr, hrb⟩ := Pure.apart_end l0 l1 HL0.out hxr hyr HY.out.1 HY.out.2 (l0.length + 1) (by omega)
    have hxe : xw = encTo l0 l0.length := by
      rw [show block_Write.f l0 = some (if rightE l0 = 0 then (encTo l0 l0.length, 0) else ([], rightE l0)) from rfl, if_pos hxr] at hx0
      simp only [Option.some.injEq, Prod.mk.injEq, and_true] at hx0
      exact hx0.symm
    have hye : yw = encTo l1 l1.length := by
      rw [show block_Write.f l1 = some (if rightE l1 = 0 then (encTo l1 l1.length, 0) else ([], rightE l1)) from rfl, if_pos hyr] at hy0
      simp only [Option.some.injEq, Prod.mk.injEq, and_true] at hy0
      exact hy0.symm
    rw [← hxe, ← hye] at hrb
    have HRB := Aside0.mk hrb
    have HAS := Aside0.mk (fun W (hb : Below w.heap.size w W) => rickyardlaw09_As.calls (l1.length + 1) (fun k_ => k_ < w.heap.size) A1 c1 l1 (l1.map Pure.a47) W (Kd.V_mk HC0.out.2 (Kd.F_below (Kd.C_F k39_heap HR10.out) hb)) (Pure.as_f l1 HL1.out _ (by omega)))
    have HSM := Aside0.mk (show ∀ (B : Option Addr) (d : Nat) (W : World), Below w.heap.size w W → Kd.C k47 W B (l1.map Pure.a47).length (l1.map Pure.a47) → l1.length ≤ d → Calls Try.prog 17 #[.slice A0 l0.length c0, .slice B l1.length d] W fun e w' => e = .returned (.bool r) ∧ Drawn0 W w' from fun B d W hb hC hd => by
      have h_ := rickyardlaw09_Same.calls (l0.length + 1) A0 c0 l0 B d (l1.map Pure.a47) r W (HR0.out W hb) HC0.out.1 hC (by rw [List.length_map]; exact hd) hr
      rw [List.length_map] at h_
      exact h_)
    clear hx0 hy0 hxr hyr hr hrb hxe hye
    go_upto_region 10 with (first
      | ((with_reducible refine gate_callee (f := 11) rfl ?_); refine goesL_ (some 92) rfl rfl Try.func11 (by kernel_rfl) rfl #[.slice A1 l1.length c1] rfl (by (try simp only [List.map_toArray, List.map_cons, List.map_nil]); first | done | rfl | (simp only [List.length_drop, List.length_take]; rfl)) ?_; refine (HWY.out _ HB6.out).mono ?_; rintro e w7 ⟨v7, rfl, hR, hb⟩; obtain ⟨A7, c7, rfl, hle7, hC7⟩ := Kd.R_reads hR; have HC7 := Aside0.mk hC7; have HC67 := Aside0.mk (Kd.C_below HC6.out hb); have HB7 := Aside0.mk (HB6.out.trans (hb.mono HB6.out.size)); clear hR hb hle7 hC7; refine ⟨_, rfl, ?_⟩)
      | ((with_reducible refine gate_callee (f := 11) rfl ?_); refine goesL_ (some 87) rfl rfl Try.func11 (by kernel_rfl) rfl #[.slice A0 l0.length c0] rfl (by (try simp only [List.map_toArray, List.map_cons, List.map_nil]); first | done | rfl | (simp only [List.length_drop, List.length_take]; rfl)) ?_; refine (HWX.out _ HB5.out).mono ?_; rintro e w6 ⟨v6, rfl, hR, hb⟩; obtain ⟨A6, c6, rfl, hle6, hC6⟩ := Kd.R_reads hR; have HC6 := Aside0.mk hC6; have HB6 := Aside0.mk (HB5.out.trans (hb.mono HB5.out.size)); clear hR hb hle6 hC6; refine ⟨_, rfl, ?_⟩))
    have HS := Aside0.mk (fun W (hb : Below w7.heap.size w7 W) => And.intro (Kd.C_string (P := Try.prog) (A := A6) (c := c6) Try.underlying23 Try.underlying5 Try.underlying9 (Kd.C_below HC67.out hb)) (Kd.C_string (P := Try.prog) (A := A7) (c := c7) Try.underlying23 Try.underlying5 Try.underlying9 (Kd.C_below HC7.out hb)))
    have HSD := Aside0.mk (HS.out _ (Below.refl w7.heap.size w7).drew)
    go_region_held3 (fun W' => (convert 23 9 (.slice A6 xw.length c6)).run Try.prog W' = .ok (.string (strOfNums xw)) W' ∧ (convert 23 9 (.slice A7 yw.length c7)).run Try.prog W' = .ok (.string (strOfNums yw)) W') (first | (with_reducible exact HS10.out) | (with_reducible exact HS9.out) | (with_reducible exact HS8.out) | (with_reducible exact HSD.out))
      (first
        | (go_at_call 17; refine (HSM.out A9 c9 _ HB9.out HC9.out hle9).mono ?_; rintro e w10 ⟨rfl, hd⟩; have HX10 := Aside0.mk (HX9.out.trans (hd.below.mono HX9.out.size)); have HB10 := Aside0.mk (HB7.out.trans (HX10.out.mono HB7.out.size)); have HS10 := Aside0.mk (HS.out _ HX10.out); clear hd)
        | (go_at_call 13; refine (HAS.out _ HB8.out).mono ?_; rintro e w9 ⟨v9, rfl, hN, hb⟩; obtain ⟨A9, c9, hv9⟩ := Kd.N_slice hN; rw [List.length_map] at hv9; subst hv9; obtain ⟨hl9, hle9, hC9⟩ := Kd.N_reads' hN; clear hl9; have HC9 := Aside0.mk hC9; have HX9 := Aside0.mk (HX8.out.trans (hb.mono HX8.out.size)); have HB9 := Aside0.mk (HB7.out.trans (HX9.out.mono HB7.out.size)); have HS9 := Aside0.mk (HS.out _ HX9.out); clear hN hC9 hb)
        | (go_at_call 10; refine (HAL.out _).mono ?_; rintro e w8 ⟨rfl, hb⟩; have HX8 := Aside0.mk ((Below.refl w7.heap.size w7).drew.trans (hb.mono (Nat.le_refl _))); have HB8 := Aside0.mk (HB7.out.trans (HX8.out.mono HB7.out.size)); have HS8 := Aside0.mk (HS.out _ HX8.out); clear hb))
    all_goals

      go_wp2
      go_ret
      refine ⟨?_, HB10.out⟩
      show Ending.returned (.bool _) = _
      rw [HRB.out]
end Go.Proofs.Yticddiiigfkamaa.P
