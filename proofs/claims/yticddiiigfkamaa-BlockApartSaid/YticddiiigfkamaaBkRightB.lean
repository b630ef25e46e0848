/- block.right: whether pairs are a row. No conditions. -/
import Derived.Test.YticddiiigfkamaaBkRight
import Derived.Deep.QuietTactic
import Derived.BigQuiet
namespace Go.Proofs.Yticddiiigfkamaa.P
open Go.RowKit Go.Proofs.YticddiiigfkamaaW.PrintWords Go.Proofs.YticddiiigfkamaaW.PrintLast Go.Proofs.YticddiiigfkamaaW.PrintMore
set_option linter.unusedVariables false
set_option linter.unusedSimpArgs false

/-- Do the keys rise? -/
def risesP : List Pr → Bool
  | a :: b :: l => decide (cmpI a.f0 b.f0 < 0) && risesP (b :: l)
  | _ => true
/-- What right tells. -/
def rightE (l : List Pr) : Int := if 4096 < l.length then 2 else if l.any longP then 2 else if risesP l then 0 else 50
theorem rises_step {l : List Pr} {i : Nat} {x y : Pr} (hx : l[i]? = some x) (hy : l[i + 1]? = some y) : risesP (l.drop i) = (decide (cmpI x.f0 y.f0 < 0) && risesP (l.drop (i + 1))) := by
  obtain ⟨h1, e1⟩ := List.getElem?_eq_some_iff.1 hx
  obtain ⟨h2, e2⟩ := List.getElem?_eq_some_iff.1 hy
  rw [List.drop_eq_getElem_cons h1, e1, List.drop_eq_getElem_cons h2, e2, risesP]
theorem rises_end {l : List Pr} {i : Nat} (h : l.length ≤ i + 1) : risesP (l.drop i) = true := by
  have hd : (l.drop i).length ≤ 1 := by rw [List.length_drop]; omega
  match l.drop i, hd with
  | [], _ => rfl
  | [a], _ => rfl
def block_right.f (l : List Pr) : Option Int := some (rightE l)

set_option maxHeartbeats 1000000 in
theorem block_right.calls (A0 : Option Addr) (c0 : Nat) (l0 : List Pr) (r : Int) (w : World) (hr0 : Kd.C k39 w A0 l0.length l0) (hc0 : l0.length ≤ c0) (h : block_right.f l0 = some r) :
    Calls Try.prog 22 #[.slice A0 l0.length c0] w fun e w' => e = .returned (.int .i64 r) ∧ Below w.heap.size w w' := by
  obtain rfl := Option.some.inj h
  clear h
  have hu := Try.underlying39
  have hm := hr0.2.1
  have HR := Aside0.mk hr0
  have HB0 := Aside0.mk (Below.refl w.heap.size w)
  unfold rightE
  clear hr0 hc0
  by_cases h1 : 4096 < l0.length
  · rw [if_pos h1]
    have d1 : decide (4096 < (l0.length : Int)) = true := decide_eq_true (by omega)
    go_enter Try.func22, Try.ntmps22
    go_wp2
    go_ret
    exact ⟨rfl, HB0.out⟩
  rw [if_neg h1]
  have d1 : decide (4096 < (l0.length : Int)) = false := decide_eq_false (by omega)
  have hany := fun W (hb : Below w.heap.size w W) => anyL_calls A0 c0 l0 W (Kd.C_below HR.out hb) hm
  cases h2 : l0.any longP with
  | true =>
    rw [if_pos rfl]
    rw [h2] at hany
    have HAN := Aside0.mk hany
    clear hany h2 h1
    go_enter Try.func22, Try.ntmps22
    go_wp2_with (first | (go_at_call 30; refine (HAN.out _ HB0.out).mono ?_; rintro e w2 ⟨rfl, hb⟩; have HB2 := Aside0.mk hb; clear hb))
    go_ret
    exact ⟨rfl, HB2.out⟩
  | false =>
    rw [if_neg (by simp)]
    obtain ⟨r, hr⟩ : ∃ r : Int, (if risesP l0 = true then 0 else 50) = r := ⟨_, rfl⟩
    rw [hr]
    have HRR := Aside0.mk hr
    clear hr
    rw [h2] at hany
    have HAN := Aside0.mk hany
    have HL := Aside0.mk h1
    clear hany h2 h1
    go_enter Try.func22, Try.ntmps22
    go_wp2_with (first | (go_at_call 30; refine (HAN.out _ HB0.out).mono ?_; rintro e w2 ⟨rfl, hb⟩; have HB2 := Aside0.mk hb; clear hb))
    clear d1
    go_loopg [3] (l0.length) (fun kq v3 w' => ∃ i : Nat, v3 = .int .i64 ((i + 1 : Nat) : Int) ∧ Aside0 ((i + 1 ≤ l0.length ∨ i = 0) ∧ kq = l0.length - i ∧ risesP l0 = risesP (l0.drop i)) ∧ Aside0 (Below w.heap.size w w'))
    case atStart => exact ⟨0, rfl, ⟨.inr rfl, rfl, rfl⟩, HB2⟩
    case round =>
      obtain ⟨i, rfl, HI, HB⟩ := hrel
      by_cases hlt : i + 1 < l0.length
      · obtain ⟨x, hxx⟩ : ∃ x, l0[i]? = some x := ⟨_, List.getElem?_eq_getElem (by omega)⟩
        obtain ⟨y, hyy⟩ : ∃ y, l0[i + 1]? = some y := ⟨_, List.getElem?_eq_getElem hlt⟩
        have hC := Kd.C_below HR.out HB.out
        obtain ⟨ad, B0, d0, _, _, rfl, hc0, _, hl0, hC0, _, _⟩ := at_T39 hC (i : Int) (by omega) (by omega)
        obtain ⟨ad2, B1, d1, _, _, e_, hc1, _, hl1, hC1, _, _⟩ := at_T39 hC ((i + 1 : Nat) : Int) (by omega) (by omega)
        cases e_
        have hx : rd_T39 l0 (i : Int) = x := by simp [rd_T39, List.getD_eq_getElem?_getD, hxx]
        have hy : rd_T39 l0 ((i + 1 : Nat) : Int) = y := by
          show l0.getD (((i + 1 : Nat) : Int)).toNat _ = y
          rw [Int.toNat_natCast, List.getD_eq_getElem?_getD, hyy]; rfl
        rw [hx] at hc0 hl0 hC0
        rw [hy] at hc1 hl1 hC1
        rw [Int.toNat_natCast] at hc0 hc1
        have hst := rises_step hxx hyy
        have hcm := cmp_quiet (c0 := d0) (c1 := d1) hC0 hl0 hC1 hl1
        obtain ⟨c, hc⟩ : ∃ c, cmpI x.f0 y.f0 = c := ⟨_, rfl⟩
        rw [hc] at hst hcm
        have HST := Aside0.mk hst
        have HCM := Aside0.mk hcm
        have HLT := Aside0.mk hlt
        have d1_ : decide (((i + 1 : Nat) : Int) < (l0.length : Int)) = true := decide_eq_true (by omega)
        have hb1 : i < 9223372036854775807 := by omega
        have hb2 : i + 1 < 9223372036854775807 := by omega
        have i1 : (0 ≤ (i : Int)) = True := eq_true (by omega)
        have i2 : ((i : Int) < (l0.length : Int)) = True := eq_true (by omega)
        have i3 : (0 ≤ ((i + 1 : Nat) : Int)) = True := eq_true (by omega)
        have i4 : (((i + 1 : Nat) : Int) < (l0.length : Int)) = True := eq_true (by omega)
        have hsub := w64_pred hb1
        have hadd := w64_succ hb2
        clear hb1 hb2 hlt hx hy hl0 hC0 hl1 hC1 hC hst hcm hc hxx hyy
        obtain ⟨I, hI⟩ : ∃ I : Int, ((i + 1 : Nat) : Int) = I := ⟨_, rfl⟩
        have hIn : I.toNat = i + 1 := by rw [← hI]; exact Int.toNat_natCast _
        have HII := Aside0.mk hI
        rw [hI] at d1_ hsub hadd i3 i4 ⊢
        clear hI
        by_cases hcc : 0 ≤ c
        · have d2 : decide (0 ≤ c) = true := decide_eq_true hcc
          have HCC := Aside0.mk hcc
          clear hcc
          go_wp2
          go_quiet ((go_at_call 28; exact HCM.out _))
          go_wp2
          go_ret
          refine ⟨?_, pw_below_drewN HB.out _⟩
          rw [← HRR.out, HI.out.2.2, HST.out, decide_eq_false (by have := HCC.out; omega)]
          rfl
        · have d2 : decide (0 ≤ c) = false := decide_eq_false hcc
          have HCC := Aside0.mk hcc
          clear hcc
          go_wp2
          go_quiet ((go_at_call 28; exact HCM.out _))
          go_wp2
          go_roundg (l0.length - (i + 1))
          case measure => have := HI.out.2.1; have := HLT.out; omega
          case rel => exact ⟨i + 1, by rw [hadd], ⟨.inl HLT.out, rfl, by rw [HI.out.2.2, HST.out, decide_eq_true (by have := HCC.out; omega), Bool.true_and]⟩, ⟨pw_below_drewN HB.out _⟩⟩
      · have d1_ : decide (((i + 1 : Nat) : Int) < (l0.length : Int)) = false := decide_eq_false (by omega)
        have HLT := Aside0.mk hlt
        clear hlt
        obtain ⟨I, hI⟩ : ∃ I : Int, ((i + 1 : Nat) : Int) = I := ⟨_, rfl⟩
        rw [hI] at d1_ ⊢
        clear hI
        go_wp2
        go_ret
        exact ⟨by rw [← HRR.out, HI.out.2.2, rises_end (by have := HLT.out; omega)]; rfl, HB.out⟩
end Go.Proofs.Yticddiiigfkamaa.P
