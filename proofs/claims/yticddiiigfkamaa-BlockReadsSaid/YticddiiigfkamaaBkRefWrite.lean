/- rickyardref09.Write: the document's bytes of a row are the code's. No conditions. -/
import Derived.Test.YticddiiigfkamaaBkWrite
import Derived.Test.YticddiiigfkamaaBkPureRef
namespace Go.Proofs.Yticddiiigfkamaa.P
open Go.RowKit Go.Proofs.YticddiiigfkamaaW.PrintWords Go.Proofs.YticddiiigfkamaaW.PrintLast Go.Proofs.YticddiiigfkamaaW.PrintMore
set_option linter.unusedVariables false
set_option linter.unusedSimpArgs false

abbrev Pq := S47
/-- The document's pair as the code's. -/
def a39 (p : Pq) : Pr := ⟨p.f0, p.f1⟩
def rickyardref09_Write.f (l : List Pq) : Option (List Int × Int) := block_Write.f (l.map a39)
theorem rd47n {l : List Pq} {i : Nat} {p : Pq} (h : l[i]? = some p) : rd_T47 l (i : Int) = p := by simp [rd_T47, List.getD_eq_getElem?_getD, h]
theorem a39_at {l : List Pq} {i : Nat} {p : Pq} (h : l[i]? = some p) : (l.map a39)[i]? = some (a39 p) := by rw [List.getElem?_map, h]; rfl
theorem any_take_snoc {l : List Pr} {i : Nat} {x : Pr} (h : l[i]? = some x) (hp : longP x = false) (hb : (l.take i).any longP = false) : (l.take (i + 1)).any longP = false := by
  rw [List.take_add_one, h]
  simp [hb, hp]
theorem any_of_at {l : List Pr} {i : Nat} {x : Pr} (h : l[i]? = some x) (hp : longP x = true) : l.any longP = true := List.any_eq_true.2 ⟨x, List.mem_of_getElem? h, hp⟩
theorem rightE_long {l : List Pr} (h : l.any longP = true) : rightE l = 2 := by
  unfold rightE
  by_cases h1 : 4096 < l.length
  · rw [if_pos h1]
  · rw [if_neg h1, if_pos h]
/-- Where two keys do not rise. -/
theorem rightE_order {l : List Pr} {j : Nat} {x y : Pr} (hn : l.length ≤ 4096) (hl : l.any longP = false) (hx : l[j]? = some x) (hy : l[j + 1]? = some y) (hr : risesP l = risesP (l.drop j)) (hc : ¬ cmpI x.f0 y.f0 < 0) : rightE l = 50 := by
  have : risesP l = false := by rw [hr, rises_step hx hy, decide_eq_false hc]; rfl
  unfold rightE
  rw [if_neg (by omega), hl, if_neg (by decide), this, if_neg (by decide)]
theorem geq_run {P : Program} (t : TypeId) (a b : ByteArray) (w : World) : (binOp .geq t (.string a) (.string b)).run P w = .ok (.bool (!(Op.bytesLess a.toList b.toList))) w := by simp [binOp, Op.stringOp]
set_option maxHeartbeats 8000000 in
set_option maxRecDepth 100000 in
theorem rickyardref09_Write.calls (A0 : Option Addr) (c0 : Nat) (l0 : List Pq) (r1 : List Int) (r2 : Int) (w : World) (hr0 : Kd.C k47 w A0 l0.length l0) (hc0 : l0.length ≤ c0) (h : rickyardref09_Write.f l0 = some (r1, r2)) :
    Calls Try.prog 12 #[.slice A0 l0.length c0] w fun e w' => ∃ v0_ : Value, e = .returned (.tuple #[v0_, .int .i64 r2]) ∧ Kd.R (Kd.int .u8) 5 w' w.heap.size (fun _ => True) v0_ r1 ∧ Below w.heap.size w w' := by
  have h := Option.some.inj h
  have hu := Try.underlying47
  obtain ⟨l, hl⟩ : ∃ l, l0.map a39 = l := ⟨_, rfl⟩
  have hn : l.length = l0.length := by rw [← hl, List.length_map]
  have hat : ∀ {i : Nat} {p : Pq}, l0[i]? = some p → l[i]? = some (a39 p) := fun h => by rw [← hl]; exact a39_at h
  rw [hl] at h
  have HAT := Aside0.mk @hat
  have HN := Aside0.mk hn
  have HR := Aside0.mk hr0
  have HRES := Aside0.mk h
  have HB0 := Aside0.mk (Below.refl w.heap.size w)
  have hm := hr0.2.1
  obtain ⟨i5, hi5, hzz⟩ := Option.map_eq_some_iff.1 info5
  simp only [Prod.mk.injEq] at hzz
  have HI5 := Aside0.mk (And.intro hi5 hzz.2.1)
  clear hl hr0 hc0 h hat hn hi5 hzz
  by_cases h1 : 4096 < l0.length
  · have d1 : decide (4096 < (l0.length : Int)) = true := decide_eq_true (by omega)
    have hres := HRES.out
    have e2 : rightE l = 2 := by unfold rightE; rw [if_pos (by rw [HN.out]; exact h1)]
    rw [e2, if_neg (by decide)] at hres
    obtain ⟨rfl, rfl⟩ := Prod.mk.injEq .. ▸ hres
    clear hres e2 HRES h1
    go_enter Try.func12, Try.ntmps12
    go_wp2
    refine bodyPost_ret (results_tmp2 rfl _ _ _) rfl ?_
    exact ⟨_, rfl, Kd.R_nil _ _ _ _ _, HB0.out⟩
  have d1 : decide (4096 < (l0.length : Int)) = false := decide_eq_false (by omega)
  have HL := Aside0.mk (show l0.length ≤ 4096 by omega)
  clear h1
  go_enter Try.func12, Try.ntmps12
  go_wp2
  go_loopg [4] (l0.length) (fun kq v4 w' => ∃ i : Nat, v4 = .int .i64 i ∧ Aside0 (i ≤ l0.length ∧ kq = l0.length - i ∧ (l.take i).any longP = false) ∧ Aside0 (Below w.heap.size w w'))
  case atStart => exact ⟨0, rfl, ⟨Nat.zero_le _, rfl, by simp⟩, HB0⟩
  case round =>
    obtain ⟨i, rfl, HI, HB⟩ := hrel
    by_cases hlt : i < l0.length
    · obtain ⟨ad, B0, d0, B1, d1_, rfl, hc0, hc1, hl0, hC0, hl1, hC1⟩ := at_T47 (Kd.C_below HR.out HB.out) (i : Int) (by omega) (by omega)
      obtain ⟨x, hxx⟩ : ∃ x, l0[i]? = some x := ⟨_, List.getElem?_eq_getElem hlt⟩
      rw [rd47n hxx] at hc0 hc1 hl0 hC0 hl1 hC1
      rw [Int.toNat_natCast] at hc0 hc1
      have HX := Aside0.mk (HAT.out hxx)
      have HLT := Aside0.mk hlt
      have e1_ : decide ((i : Int) < (l0.length : Int)) = true := decide_eq_true (by omega)
      have i1 : (0 ≤ (i : Int)) = True := eq_true (by omega)
      have i2 : ((i : Int) < (l0.length : Int)) = True := eq_true (by omega)
      have i3 : (i < l0.length) = True := eq_true hlt
      have hwr : wrap64 ((i : Int) + 1) = ((i + 1 : Nat) : Int) := by have := HL.out; unfold wrap64; omega
      clear hlt hl0 hC0 hl1 hC1 hxx
      by_cases q0 : 4096 < x.f0.length
      · have g0 : decide (4096 < (x.f0.length : Int)) = true := decide_eq_true (by omega)
        have g0b : decide (4096 < x.f0.length) = true := decide_eq_true q0
        have hlo : longP (a39 x) = true := by unfold longP a39; simp [g0b]
        have hres := HRES.out
        rw [rightE_long (any_of_at HX.out hlo), if_neg (by decide)] at hres
        obtain ⟨rfl, rfl⟩ := Prod.mk.injEq .. ▸ hres
        clear hres q0 hlo HRES
        go_wp2
        refine bodyPost_ret (results_tmp2 rfl _ _ _) rfl ?_
        exact ⟨_, rfl, Kd.R_nil _ _ _ _ _, HB.out⟩
      have g0 : decide (4096 < (x.f0.length : Int)) = false := decide_eq_false (by omega)
      have g0b : decide (4096 < x.f0.length) = false := decide_eq_false q0
      by_cases q1 : 4096 < x.f1.length
      · have g1 : decide (4096 < (x.f1.length : Int)) = true := decide_eq_true (by omega)
        have g1b : decide (4096 < x.f1.length) = true := decide_eq_true q1
        have hlo : longP (a39 x) = true := by unfold longP a39; simp [g1b]
        have hres := HRES.out
        rw [rightE_long (any_of_at HX.out hlo), if_neg (by decide)] at hres
        obtain ⟨rfl, rfl⟩ := Prod.mk.injEq .. ▸ hres
        clear hres q0 q1 hlo HRES
        go_wp2
        refine bodyPost_ret (results_tmp2 rfl _ _ _) rfl ?_
        exact ⟨_, rfl, Kd.R_nil _ _ _ _ _, HB.out⟩
      have g1 : decide (4096 < (x.f1.length : Int)) = false := decide_eq_false (by omega)
      have g1b : decide (4096 < x.f1.length) = false := decide_eq_false q1
      have HLO := Aside0.mk (show longP (a39 x) = false by unfold longP a39; simp [g0b, g1b])
      clear q0 q1
      go_wp2
      go_roundg (l0.length - (i + 1))
      case measure => have := HI.out.2.1; have := HLT.out; omega
      case rel => exact ⟨i + 1, by rw [hwr], ⟨HLT.out, rfl, any_take_snoc HX.out HLO.out HI.out.2.2⟩, HB⟩
    have e1_ : decide ((i : Int) < (l0.length : Int)) = false := decide_eq_false (by omega)
    have e1b : decide (i < l0.length) = false := decide_eq_false hlt
    have HNL := Aside0.mk (show l.any longP = false by have h_ := HI.out.2.2; rwa [List.take_of_length_le (by rw [HN.out]; omega)] at h_)
    clear hlt
    go_wp2
    clear e1_ e1b
    go_loopg [5, 6] (l0.length) (fun kq v5 v6 w' => ∃ i : Nat, v6 = .int .i64 i ∧ Aside0 (i ≤ l0.length ∧ kq = l0.length - i ∧ risesP l = risesP (l.drop (i - 1))) ∧ Aside0 (Kd.R (Kd.int .u8) 5 w' w.heap.size (fun _ => True) v5 (encTo l i)) ∧ Aside0 (Below w.heap.size w w'))
    case atStart => exact ⟨0, rfl, ⟨Nat.zero_le _, rfl, rfl⟩, ⟨Kd.R_nil _ _ _ _ _⟩, HB⟩
    case round =>
      clear HI
      obtain ⟨i, rfl, HI, HO, HB⟩ := hrel
      by_cases hlt : i < l0.length
      case neg =>
        have e1_ : decide ((i : Int) < (l0.length : Int)) = false := decide_eq_false (by omega)
        have e1b : decide (i < l0.length) = false := decide_eq_false hlt
        have HE := Aside0.mk (show i = l.length by have := HI.out.1; rw [HN.out]; omega)
        have hri : rightE l = 0 := by
          unfold rightE
          rw [if_neg (by rw [HN.out]; have := HL.out; omega), HNL.out, if_neg (by decide), HI.out.2.2, rises_end (by rw [HE.out]; omega), if_pos rfl]
        have hres := HRES.out
        rw [hri, if_pos rfl] at hres
        obtain ⟨rfl, rfl⟩ := Prod.mk.injEq .. ▸ hres
        clear hlt hres hri HRES
        go_wp2
        refine bodyPost_ret (results_tmp2 rfl _ _ _) rfl ?_
        exact ⟨_, rfl, by have h_ := HO.out; rw [HE.out] at h_; exact h_, HB.out⟩
      obtain ⟨x, hxx⟩ : ∃ x, l0[i]? = some x := ⟨_, List.getElem?_eq_getElem hlt⟩
      have HX0 := Aside0.mk hxx
      have HX := Aside0.mk (HAT.out hxx)
      have HNX := Aside0.mk (not_long HNL.out _ (List.mem_of_getElem? HX.out))
      have HLT := Aside0.mk hlt
      obtain ⟨bad, hbad⟩ : ∃ bad : Bool, bad = (decide (0 < i) && !decide (cmpI (prevK l i) x.f0 < 0)) := ⟨_, rfl⟩
      have HBAD := Aside0.mk hbad
      have e1_ : decide ((i : Int) < (l0.length : Int)) = true := decide_eq_true (by omega)
      have e1b : decide (i < l0.length) = true := decide_eq_true hlt
      clear hlt hxx hbad
      go_upto_region 13 with (fail)
      go_cut [56] (fun v56 wc => v56 = .bool bad ∧ Aside0 (Kd.R (Kd.int .u8) 5 wc w.heap.size (fun _ => True) u5 (encTo l i)) ∧ Aside0 (Below w.heap.size w wc))
      case first =>
        by_cases hi0 : i = 0
        · have z1 : decide (0 < (i : Int)) = false := decide_eq_false (by omega)
          have z1b : decide (0 < i) = false := decide_eq_false (by omega)
          have z2 : bad = false := by rw [HBAD.out, z1b]; rfl
          have Z2 := Aside0.mk z2
          clear hi0 z2
          go_wp2
          repeat (go_quiet (fail); try go_wp2)
          go_meet
          case rel => exact ⟨by rw [Z2.out], ⟨by (with_reducible repeat (first | apply Kd.R_alloc | apply Kd.R_drewN | apply Kd.R_drew)); exact HO.out⟩, ⟨by repeat (first | exact HB.out | apply pw_below_drewN | apply below_drew1)⟩⟩
        · obtain ⟨j, hj⟩ : ∃ j, i = j + 1 := ⟨i - 1, by omega⟩
          have hil := HLT.out
          have hjl : j < l0.length := by omega
          obtain ⟨y, hyy⟩ : ∃ y, l0[j]? = some y := ⟨_, List.getElem?_eq_getElem hjl⟩
          obtain ⟨ad, B0, d0, B1, d1_, rfl, hc0, hc1, hl0, hC0, hl1, hC1⟩ := at_T47 (Kd.C_below HR.out HB.out) (i : Int) (by omega) (by omega)
          obtain ⟨ad2, E0, f0, E1, f1, e_, kc0, kc1, kl0, kC0, kl1, kC1⟩ := at_T47 (Kd.C_below HR.out HB.out) (j : Int) (by omega) (by omega)
          cases e_
          rw [rd47n HX0.out] at hc0 hc1 hl0 hC0 hl1 hC1
          rw [rd47n hyy] at kc0 kc1 kl0 kC0 kl1 kC1
          rw [Int.toNat_natCast] at hc0 hc1 kc0 kc1
          have hpk : prevK l i = y.f0 := by rw [hj]; exact prevK_succ l (HAT.out hyy)
          have z1 : decide (0 < (i : Int)) = true := decide_eq_true (by omega)
          have z1b : decide (0 < i) = true := decide_eq_true (by omega)
          have z2 : bad = !(Op.bytesLess (strOfNums y.f0).toList (strOfNums x.f0).toList) := by rw [HBAD.out, z1b, hpk, Bool.true_and, Pure.less_cmp]
          have hw1 : wrap64 ((i : Int) - 1) = (j : Int) := by have := HL.out; unfold wrap64; omega
          have hw1b : IntKind.i64.wrap ((i : Int) - 1) = (j : Int) := by rw [IntWalk.i64_left]; exact hw1
          have i1 : (0 ≤ (i : Int)) = True := eq_true (by omega)
          have i2 : ((i : Int) < (l0.length : Int)) = True := eq_true (by omega)
          have i3 : (i < l0.length) = True := eq_true hil
          have j1 : (0 ≤ (j : Int)) = True := eq_true (by omega)
          have j2 : ((j : Int) < (l0.length : Int)) = True := eq_true (by omega)
          have j3 : (j < l0.length) = True := eq_true hjl
          have hcv1 := fun n_ : Nat => Kd.C_string (P := Try.prog) (A := E0) (c := f0) Try.underlying23 Try.underlying5 Try.underlying9 (Kd.C_drewN kC0 n_)
          have hcv2 := fun n_ : Nat => Kd.C_string (P := Try.prog) (A := B0) (c := d0) Try.underlying23 Try.underlying5 Try.underlying9 (Kd.C_drewN hC0 n_)
          have hcv1a := Kd.C_string (P := Try.prog) (A := E0) (c := f0) Try.underlying23 Try.underlying5 Try.underlying9 kC0
          have hcv2a := Kd.C_string (P := Try.prog) (A := B0) (c := d0) Try.underlying23 Try.underlying5 Try.underlying9 hC0
          have hge := fun w_ => geq_run (P := Try.prog) 9 (strOfNums y.f0) (strOfNums x.f0) w_
          have Z2 := Aside0.mk z2
          clear hi0 hj hil hjl hyy hl0 hC0 hl1 hC1 kl0 kC0 kl1 kC1 hpk z2 hc1 kc1
          go_wp2
          repeat (go_quiet (fail); try go_wp2)
          go_meet
          case rel => exact ⟨by rw [Z2.out], ⟨by (with_reducible repeat (first | apply Kd.R_alloc | apply Kd.R_drewN | apply Kd.R_drew)); exact HO.out⟩, ⟨by repeat (first | exact HB.out | apply pw_below_drewN | apply below_drew1)⟩⟩
      case rest =>
        clear HO HB
        obtain ⟨rfl, HO, HB⟩ := hcut
        cases bad with
        | true =>
          obtain ⟨hi0, hcm⟩ : 0 < i ∧ ¬ cmpI (prevK l i) x.f0 < 0 := by have := HBAD.out; simpa using this.symm
          obtain ⟨j, hj⟩ : ∃ j, i = j + 1 := ⟨i - 1, by omega⟩
          have hjl : j < l0.length := by have := HLT.out; omega
          obtain ⟨y, hyy⟩ : ∃ y, l0[j]? = some y := ⟨_, List.getElem?_eq_getElem hjl⟩
          have hpk : prevK l i = y.f0 := by rw [hj]; exact prevK_succ l (HAT.out hyy)
          rw [hpk] at hcm
          have hx := HX.out
          have hrr := HI.out.2.2
          rw [hj] at hx hrr
          have hres := HRES.out
          rw [rightE_order (by rw [HN.out]; exact HL.out) HNL.out (HAT.out hyy) hx hrr hcm, if_neg (by decide)] at hres
          obtain ⟨rfl, rfl⟩ := Prod.mk.injEq .. ▸ hres
          clear hres hi0 hcm hj hjl hyy hpk hx hrr HRES e1_ e1b
          go_wp2
          refine bodyPost_ret (results_tmp2 rfl _ _ _) rfl ?_
          exact ⟨_, rfl, Kd.R_nil _ _ _ _ _, HB.out⟩
        | false =>
          have HRI := Aside0.mk (show risesP l = risesP (l.drop i) by
            have hb_ := HBAD.out
            by_cases hi0 : i = 0
            · have := HI.out.2.2; rw [hi0] at this ⊢; exact this
            · obtain ⟨j, hj⟩ : ∃ j, i = j + 1 := ⟨i - 1, by omega⟩
              have hjl : j < l0.length := by have := HLT.out; omega
              obtain ⟨y, hyy⟩ : ∃ y, l0[j]? = some y := ⟨_, List.getElem?_eq_getElem hjl⟩
              have hpk : prevK l i = y.f0 := by rw [hj]; exact prevK_succ l (HAT.out hyy)
              rw [hpk, decide_eq_true (show 0 < i by omega), Bool.true_and] at hb_
              have hx := HX.out
              have hrr := HI.out.2.2
              rw [hj] at hx hrr ⊢
              rw [hrr, show j + 1 - 1 = j by omega, rises_step (HAT.out hyy) hx]
              have : decide (cmpI y.f0 x.f0 < 0) = true := by simpa using hb_.symm
              show (decide (cmpI y.f0 x.f0 < 0) && _) = _
              rw [this, Bool.true_and])
          obtain ⟨n, hn⟩ : ∃ n, cnAt i (prevK l i) (a39 x) = n := ⟨_, rfl⟩
          have HNN := Aside0.mk hn
          have HNLE := Aside0.mk (show n ≤ x.f0.length by rw [← hn]; exact cnAt_le _ _ _)
          have htm : Int.tmod (i : Int) 8 = ((i % 8 : Nat) : Int) := by rw [Int.tmod_eq_emod_of_nonneg (by omega)]; omega
          obtain ⟨m8, hm8⟩ : ∃ m : Int, ((i % 8 : Nat) : Int) = m := ⟨_, rfl⟩
          have HM8 := Aside0.mk hm8
          rw [hm8] at htm
          clear hn hm8
          go_upto_if 59 with (fail)
          go_cut [7] (fun v7 wc => v7 = .int .i64 (n : Int) ∧ Aside0 (Kd.R (Kd.int .u8) 5 wc w.heap.size (fun _ => True) u5 (encTo l i)) ∧ Aside0 (Below w.heap.size w wc))
          case first =>
            by_cases h8 : i % 8 = 0
            · have hd : (m8 != 0) = false := bne_eq_false_iff_eq.2 (by have := HM8.out; omega)
              have H8 := Aside0.mk h8
              clear h8
              go_wp2
              go_meet
              case rel => exact ⟨by rw [← HNN.out, cnAt, if_pos H8.out]; rfl, HO, HB⟩
            · have hd : (m8 != 0) = true := bne_iff_ne.2 (by have := HM8.out; omega)
              obtain ⟨j, hj⟩ : ∃ j, i = j + 1 := ⟨i - 1, by omega⟩
              have hil := HLT.out
              have hjl : j < l0.length := by omega
              obtain ⟨y, hyy⟩ : ∃ y, l0[j]? = some y := ⟨_, List.getElem?_eq_getElem hjl⟩
              obtain ⟨ad, B0, d0, B1, d1_, rfl, hc0, hc1, hl0, hC0, hl1, hC1⟩ := at_T47 (Kd.C_below HR.out HB.out) (i : Int) (by omega) (by omega)
              obtain ⟨ad2, E0, f0, E1, f1, e_, kc0, kc1, kl0, kC0, kl1, kC1⟩ := at_T47 (Kd.C_below HR.out HB.out) (j : Int) (by omega) (by omega)
              cases e_
              rw [rd47n HX0.out] at hc0 hc1 hl0 hC0 hl1 hC1
              rw [rd47n hyy] at kc0 kc1 kl0 kC0 kl1 kC1
              rw [Int.toNat_natCast] at hc0 hc1 kc0 kc1
              have hny := (not_long HNL.out _ (List.mem_of_getElem? (HAT.out hyy))).1
              have hpk : prevK l i = y.f0 := by rw [hj]; exact prevK_succ l (HAT.out hyy)
              have hnn : cmn y.f0 x.f0 = n := by rw [← HNN.out, cnAt, if_neg h8, hpk]; rfl
              have hcm := fun W (hb : Below wc.heap.size wc W) => rickyardref09_Common.calls (y.f0.length + 1) E0 f0 y.f0 B0 d0 x.f0 _ W (Kd.C_below kC0 hb) kl0 (Kd.C_below hC0 hb) hl0 (Pure.refCommon_f y.f0 x.f0 _ (by have : y.f0.length ≤ 4096 := hny; omega) (by omega))
              rw [hnn] at hcm
              have HCM := Aside0.mk hcm
              have HCD := Aside0.mk (show wc.drew.cell? (ad.add (j * 2)) = some (.slice E0 y.f0.length f0) ∧ wc.drew.cell? (ad.add (i * 2)) = some (.slice B0 x.f0.length d0) from ⟨kc0, hc0⟩)
              have hw1 : wrap64 ((i : Int) - 1) = (j : Int) := by have := HL.out; unfold wrap64; omega
              have hw1b : IntKind.i64.wrap ((i : Int) - 1) = (j : Int) := by rw [IntWalk.i64_left]; exact hw1
              have i1 : (0 ≤ (i : Int)) = True := eq_true (by omega)
              have i2 : ((i : Int) < (l0.length : Int)) = True := eq_true (by omega)
              have i3 : (i < l0.length) = True := eq_true hil
              have j1 : (0 ≤ (j : Int)) = True := eq_true (by omega)
              have j2 : ((j : Int) < (l0.length : Int)) = True := eq_true (by omega)
              have j3 : (j < l0.length) = True := eq_true hjl
              clear h8 hj hil hjl hyy hl0 hC0 hl1 hC1 kl0 kC0 kl1 kC1 hny hpk hnn hcm hc1 kc1
              go_wp2
              go_region_held3 (fun W' => W'.cell? (ad.add (j * 2)) = some (.slice E0 y.f0.length f0) ∧ W'.cell? (ad.add (i * 2)) = some (.slice B0 x.f0.length d0)) (first | (with_reducible exact HC8.out) | (with_reducible exact HCD.out))
                (first
                  | (go_at_call 15; refine (HCM.out _ (Below.refl _ _).drew).mono ?_; rintro e w8 ⟨rfl, hb⟩; have HB8 := Aside0.mk ((HB.out.drew).trans (hb.mono HB.out.size)); have HO8 := Aside0.mk (Kd.R_below (Kd.R_drew HO.out) hb); have HC8 := Aside0.mk (And.intro (cell_bl HCD.out.1 hb) (cell_bl HCD.out.2 hb)); clear hb))
              all_goals
                go_wp2
                go_meet
                case rel => exact ⟨rfl, HO8, HB8⟩
          case rest =>
            clear HO HB
            obtain ⟨rfl, HO, HB⟩ := hcut
            obtain ⟨ad, B0, d0, B1, d1_, rfl, hc0, hc1, hl0, hC0, hl1, hC1⟩ := at_T47 HR.out (i : Int) (by omega) (by have := HLT.out; omega)
            rw [rd47n HX0.out] at hc0 hc1 hl0 hC0 hl1 hC1
            rw [Int.toNat_natCast] at hc0 hc1
            have HCE := Aside0.mk (fun W (hb : Below w.heap.size w W) => And.intro (cell_bl hc0 hb) (cell_bl hc1 hb))
            have HCK := Aside0.mk (fun W (hb : Below w.heap.size w W) => And.intro (Kd.C_below hC0 hb) (Kd.C_below hC1 hb))
            obtain ⟨m, hm_⟩ : ∃ m, x.f0.length - n = m := ⟨_, rfl⟩
            obtain ⟨k, hk_⟩ : ∃ k, x.f1.length = k := ⟨_, rfl⟩
            have hnx : x.f0.length ≤ 4096 ∧ x.f1.length ≤ 4096 := HNX.out
            have hle := HNLE.out
            have hw1 : wrap64 ((x.f0.length : Int) - (n : Int)) = (m : Int) := by unfold wrap64; omega
            have HMK := Aside0.mk (show n < 16384 ∧ m < 16384 ∧ k < 16384 by omega)
            have HM := Aside0.mk hm_
            have HK := Aside0.mk hk_
            have u1 : IntKind.u64.wrap (n : Int) = (n : Int) := by rw [IntKind.wrap_u64]; omega
            have u2 : IntKind.u64.wrap (m : Int) = (m : Int) := by rw [IntKind.wrap_u64]; omega
            have u3 : IntKind.u64.wrap (k : Int) = (k : Int) := by rw [IntKind.wrap_u64]; omega
            have i1 : (0 ≤ (i : Int)) = True := eq_true (by omega)
            have i2 : ((i : Int) < (l0.length : Int)) = True := eq_true (by have := HLT.out; omega)
            have i3 : (i < l0.length) = True := eq_true HLT.out
            have HLI := Aside0.mk (show i ≤ l.length ∧ l.length ≤ 4096 by have h_ := HLT.out; have h2_ := HL.out; have h3_ := HN.out; omega)
            obtain ⟨A', hcut, hcut2, hcut3⟩ := print_drop_of (P := Try.prog) (Value.int .u8) (0 : Int) 23 5 .i64 Try.underlying23 HI5.out.1 HI5.out.2 B0 d0 x.f0 (n : Int) (by omega) (by omega) hl0
            rw [Int.toNat_natCast] at hcut hcut2 hcut3
            have hdl : (x.f0.drop n).length = m := by rw [List.length_drop, hm_]
            rw [hdl] at hcut hcut2
            rw [hk_] at hc1 hC1
            have HKC := Aside0.mk (show ∀ W, Below w.heap.size w W → Kd.C (Kd.int .u8) W A' m (x.f0.drop n) from fun W hb => Kd.C_of_reads (d := (0 : Int)) (h1 := fun _ => rfl) (hcut2 W (Kd.reads_of_C (Kd.C_below hC0 hb))))
            have HVC := Aside0.mk (show ∀ W, Below w.heap.size w W → Kd.C (Kd.int .u8) W B1 k x.f1 from fun W hb => Kd.C_below hC1 hb)
            have HC1 := Aside0.mk (fun W (hb : Below w.heap.size w W) => cell_bl hc1 hb)
            have HDL := Aside0.mk hdl
            have ka := (HCE.out _ HB.out).1
            have kb := HC1.out _ HB.out
            have HO0 := Aside0.mk (show Kd.R (Kd.int .u8) 5 wc w.heap.size (fun _ => True) u5 (encTo l i ++ shN n m k 0) from by rw [shN, List.append_nil]; exact HO.out)
            clear hc0 hc1 hl0 hC0 hl1 hC1 hm_ hk_ hnx hle hcut2 hcut3 hdl
            go_wp2_with (first
              | ((with_reducible refine gate_builtin (b := .append) (xs := #[.tmp 108, .tmp 113]) rfl ?_); at_builtin; refine Kd.R_append_rows (Kd.int .u8) (w0 := w) w.heap.size rfl (.tmp 108) (.tmp 113) 23 5 (.int .u8 0) 1 rfl Try.underlying23 info5 rfl (by decide) (by omega) _ (encTo l i ++ shN n m k 3 ++ x.f0.drop n) x.f1 _ _ _ (fun _ => True) (fun _ => False) rfl rfl ?aO ?aR (fun _ _ h => h) (fun _ h => h.elim) ?aF ?aB ?aS ?aL ?_; (case aO => exact HO9.out); (case aR => exact HVC.out _ HB9.out); (case aF => exact (fun _ _ => trivial)); (case aB => exact HB9.out); (case aS => exact HB9.out.size); (case aL => exact enc_lim3 (x := a39 x) (not_long HNL.out) HLI.out.1 HLI.out.2 HNX.out HK.out); intro v10 w10 ho hb hg hat; have HO10 := Aside0.mk ho; have HB10 := Aside0.mk hb; clear ho hb hg hat)
              | ((with_reducible refine gate_builtin (b := .append) (xs := #[.tmp 99, .tmp 106]) rfl ?_); at_builtin; refine Kd.R_append_rows (Kd.int .u8) (w0 := w) w.heap.size rfl (.tmp 99) (.tmp 106) 23 5 (.int .u8 0) 1 rfl Try.underlying23 info5 rfl (by decide) (by omega) _ (encTo l i ++ shN n m k 3) (x.f0.drop n) _ _ _ (fun _ => True) (fun _ => False) rfl rfl ?aO ?aR (fun _ _ h => h) (fun _ h => h.elim) ?aF ?aB ?aS ?aL ?_; (case aO => exact HO8.out); (case aR => exact HKC.out _ HB8.out); (case aF => exact (fun _ _ => trivial)); (case aB => exact HB8.out); (case aS => exact HB8.out.size); (case aL => rw [← HDL.out]; exact enc_lim2 (not_long HNL.out) HLI.out.1 HLI.out.2 HNX.out.1); intro v9 w9 ho hb hg hat; have HO9 := Aside0.mk ho; have HB9 := Aside0.mk hb; have ka9 := (HCE.out _ hb).1; have kb9 := HC1.out _ hb; clear ho hb hg hat)
              | ((with_reducible refine gate_builtin (b := .append) (xs := #[.tmp 89, .tmp 97]) rfl ?_); at_builtin; refine Kd.R_append_rows (Kd.int .u8) (w0 := w) w.heap.size rfl (.tmp 89) (.tmp 97) 23 5 (.int .u8 0) 1 rfl Try.underlying23 info5 rfl (by decide) (by omega) _ (encTo l i ++ shN n m k 2) (shortL k) _ _ _ (fun _ => True) (fun _ => False) rfl rfl ?aO ?aR (fun _ _ h => h) (fun _ h => h.elim) ?aF ?aB ?aS ?aL ?_; (case aO => exact HO7.out); (case aR => exact HC7.out); (case aF => exact (fun _ _ => trivial)); (case aB => exact HB7.out); (case aS => exact HB7.out.size); (case aL => exact enc_lim (not_long HNL.out) HLI.out.1 HLI.out.2 _ _ (shN_len n m k 2) (shortL_len k).1); intro v8 w8 ho hb hg hat; have HO8 := Aside0.mk (show Kd.R (Kd.int .u8) 5 w8 w.heap.size (fun _ => True) v8 (encTo l i ++ shN n m k 3) from by have h_ := ho; rw [List.append_assoc] at h_; exact h_); have HB8 := Aside0.mk hb; have ka8 := (HCE.out _ hb).1; have kb8 := HC1.out _ hb; clear ho hb hg hat)
              | ((with_reducible refine gate_callee (f := 24) rfl ?_); refine goesL_ (some 97) rfl rfl Try.func24 (by kernel_rfl) rfl #[.int .u64 (k : Int)] rfl (by (try simp only [List.map_toArray, List.map_cons, List.map_nil]); first | done | rfl | (simp only [List.length_drop, List.length_take]; rfl)) ?_; refine (rickyardref04_Short.calls 2 (k : Int) (shortL k) _ (Pure.refShort_f k HMK.out.2.2 0)).mono ?_; rintro e w7 ⟨v7, rfl, hR, hb⟩; obtain ⟨A7, c7, rfl, hle7, hC7⟩ := Kd.R_reads hR; have HC7 := Aside0.mk hC7; have HO7 := Aside0.mk (Kd.R_below HO6.out hb); have HB7 := Aside0.mk (HB6.out.trans (hb.mono HB6.out.size)); clear hR hb hle7 hC7; refine ⟨_, rfl, ?_⟩)
              | ((with_reducible refine gate_builtin (b := .append) (xs := #[.tmp 77, .tmp 87]) rfl ?_); at_builtin; refine Kd.R_append_rows (Kd.int .u8) (w0 := w) w.heap.size rfl (.tmp 77) (.tmp 87) 23 5 (.int .u8 0) 1 rfl Try.underlying23 info5 rfl (by decide) (by omega) _ (encTo l i ++ shN n m k 1) (shortL m) _ _ _ (fun _ => True) (fun _ => False) rfl rfl ?aO ?aR (fun _ _ h => h) (fun _ h => h.elim) ?aF ?aB ?aS ?aL ?_; (case aO => exact HO5.out); (case aR => exact HC5.out); (case aF => exact (fun _ _ => trivial)); (case aB => exact HB5.out); (case aS => exact HB5.out.size); (case aL => exact enc_lim (not_long HNL.out) HLI.out.1 HLI.out.2 _ _ (shN_len n m k 1) (shortL_len m).1); intro v6 w6 ho hb hg hat; have HO6 := Aside0.mk (show Kd.R (Kd.int .u8) 5 w6 w.heap.size (fun _ => True) v6 (encTo l i ++ shN n m k 2) from by have h_ := ho; rw [List.append_assoc] at h_; exact h_); have HB6 := Aside0.mk hb; have ka6 := (HCE.out _ hb).1; have kb6 := HC1.out _ hb; clear ho hb hg hat)
              | ((with_reducible refine gate_callee (f := 24) rfl ?_); refine goesL_ (some 87) rfl rfl Try.func24 (by kernel_rfl) rfl #[.int .u64 (m : Int)] rfl (by (try simp only [List.map_toArray, List.map_cons, List.map_nil]); first | done | rfl | (simp only [List.length_drop, List.length_take]; rfl)) ?_; refine (rickyardref04_Short.calls 2 (m : Int) (shortL m) _ (Pure.refShort_f m HMK.out.2.1 0)).mono ?_; rintro e w5 ⟨v5, rfl, hR, hb⟩; obtain ⟨A5, c5, rfl, hle5, hC5⟩ := Kd.R_reads hR; have HC5 := Aside0.mk hC5; have HO5 := Aside0.mk (Kd.R_below HO4.out hb); have HB5 := Aside0.mk (HB4.out.trans (hb.mono HB4.out.size)); clear hR hb hle5 hC5; refine ⟨_, rfl, ?_⟩)
              | ((with_reducible refine gate_builtin (b := .append) (xs := #[.tmp 72, .tmp 75]) rfl ?_); at_builtin; refine Kd.R_append_rows (Kd.int .u8) (w0 := w) w.heap.size rfl (.tmp 72) (.tmp 75) 23 5 (.int .u8 0) 1 rfl Try.underlying23 info5 rfl (by decide) (by omega) _ (encTo l i ++ shN n m k 0) (shortL n) _ _ _ (fun _ => True) (fun _ => False) rfl rfl ?aO ?aR (fun _ _ h => h) (fun _ h => h.elim) ?aF ?aB ?aS ?aL ?_; (case aO => exact HO3.out); (case aR => exact HC3.out); (case aF => exact (fun _ _ => trivial)); (case aB => exact HB3.out); (case aS => exact HB3.out.size); (case aL => exact enc_lim (not_long HNL.out) HLI.out.1 HLI.out.2 _ _ (shN_len n m k 0) (shortL_len n).1); intro v4 w4 ho hb hg hat; have HO4 := Aside0.mk (show Kd.R (Kd.int .u8) 5 w4 w.heap.size (fun _ => True) v4 (encTo l i ++ shN n m k 1) from by have h_ := ho; rw [List.append_assoc] at h_; exact h_); have HB4 := Aside0.mk hb; have ka4 := (HCE.out _ hb).1; have kb4 := HC1.out _ hb; clear ho hb hg hat)
              | ((with_reducible refine gate_callee (f := 24) rfl ?_); refine goesL_ (some 75) rfl rfl Try.func24 (by kernel_rfl) rfl #[.int .u64 (n : Int)] rfl (by (try simp only [List.map_toArray, List.map_cons, List.map_nil]); first | done | rfl | (simp only [List.length_drop, List.length_take]; rfl)) ?_; refine (rickyardref04_Short.calls 2 (n : Int) (shortL n) _ (Pure.refShort_f n HMK.out.1 0)).mono ?_; rintro e w3 ⟨v3, rfl, hR, hb⟩; obtain ⟨A3, c3, rfl, hle3, hC3⟩ := Kd.R_reads hR; have HC3 := Aside0.mk hC3; have HO3 := Aside0.mk (Kd.R_below HO0.out hb); have HB3 := Aside0.mk (HB.out.trans (hb.mono HB.out.size)); clear hR hb hle3 hC3; refine ⟨_, rfl, ?_⟩))
            go_roundg (l0.length - (i + 1))
            case measure => have := HI.out.2.1; have := HLT.out; omega
            case rel =>
              refine ⟨i + 1, ?_, ⟨HLT.out, rfl, HRI.out⟩, ⟨?_⟩, HB10⟩
              · have := HL.out; have := HLT.out; congr 1; try (unfold wrap64; omega)
              · have h_ := HO10.out
                have e_ : encTo l (i + 1) = encTo l i ++ shN n m k 3 ++ x.f0.drop n ++ x.f1 := by
                  rw [encTo_succ l HX.out, HNN.out, encP]
                  show encTo l i ++ (shortL n ++ shortL (x.f0.length - n) ++ shortL x.f1.length ++ x.f0.drop n ++ x.f1) = _
                  rw [HM.out, HK.out]
                  simp only [shN, List.append_assoc]
                rw [e_]
                exact h_
end Go.Proofs.Yticddiiigfkamaa.P
