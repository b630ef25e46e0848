/- block.right: whether pairs are a row, by its closure and slices.IndexFunc. No conditions. -/
import Derived.Test.YticddiiigfkamaaECmp
namespace Go.Proofs.Yticddiiigfkamaa.P
open Go.RowKit Go.Proofs.YticddiiigfkamaaW.PrintWords Go.Proofs.YticddiiigfkamaaW.PrintLast Go.Proofs.YticddiiigfkamaaW.PrintMore
set_option linter.unusedVariables false
set_option linter.unusedSimpArgs false

abbrev Pr := S39
/-- What right's closure asks. -/
def longP (x : Pr) : Bool := decide (4096 < x.f0.length) || decide (4096 < x.f1.length)
theorem longP_calls (x : Pr) (A0 A1 : Option Addr) (c0 c1 : Nat) (w : World) (h0 : x.f0.length ≤ 9223372036854775807) (h1 : x.f1.length ≤ 9223372036854775807) :
    Calls Try.prog 31 #[.agg #[.slice A0 x.f0.length c0, .slice A1 x.f1.length c1]] w fun e w' => e = .returned (.bool (longP x)) ∧ Below w.heap.size w w' := by
  unfold longP
  have hu := Try.underlying39
  by_cases h : 4096 < x.f0.length
  · have d1 : decide (4096 < x.f0.length) = true := decide_eq_true h
    go_enter Try.func31, Try.ntmps31
    go_wp2
    go_ret
    exact ⟨rfl, (Below.refl _ _).alloc (Nat.le_refl _) _⟩
  · have d1 : decide (4096 < x.f0.length) = false := decide_eq_false h
    go_enter Try.func31, Try.ntmps31
    go_wp2
    go_ret
    refine ⟨?_, (Below.refl _ _).alloc (Nat.le_refl _) _⟩
    simp only [Bool.false_or]
    show Ending.returned (.bool _) = _
    congr 2
    congr 1 <;> exact decide_eq_decide.2 (by omega)
/-- The first place of a long one, or -1. -/
def idxL (l : List Pr) : Int := match l.findIdx? longP with | some i => (i : Int) | none => -1
theorem idxL_hit {l : List Pr} {i : Nat} {x : Pr} (h : l[i]? = some x) (hp : longP x = true) (hb : ∀ y ∈ l.take i, longP y = false) : idxL l = i := by
  obtain ⟨hi, hx⟩ := List.getElem?_eq_some_iff.1 h
  have : l.findIdx? longP = some i := by
    rw [List.findIdx?_eq_some_iff_getElem]
    refine ⟨hi, by rw [hx]; exact hp, fun j hj => ?_⟩
    rw [hb _ (by rw [List.mem_take_iff_getElem]; exact ⟨j, by omega, rfl⟩)]
    simp
  rw [idxL, this]
theorem idxL_none {l : List Pr} (h : ∀ y ∈ l, longP y = false) : idxL l = -1 := by
  have : l.findIdx? longP = none := List.findIdx?_eq_none_iff.2 h
  rw [idxL, this]
theorem idxL_any (l : List Pr) : decide (0 ≤ idxL l) = l.any longP := by
  unfold idxL
  cases h : l.findIdx? longP with
  | none =>
    have := List.findIdx?_eq_none_iff.1 h
    have e : l.any longP = false := by rw [List.any_eq_false]; intro x hx; rw [this x hx]; simp
    rw [e]; rfl
  | some i =>
    obtain ⟨hi, hp, _⟩ := List.findIdx?_eq_some_iff_getElem.1 h
    have e : l.any longP = true := List.any_eq_true.2 ⟨_, List.getElem_mem hi, hp⟩
    rw [e]
    exact decide_eq_true (by simp)
theorem take_snoc_of {l : List Pr} {i : Nat} {x : Pr} (h : l[i]? = some x) (hp : longP x = false) (hb : ∀ y ∈ l.take i, longP y = false) : ∀ y ∈ l.take (i + 1), longP y = false := by
  intro y hy
  rw [List.take_add_one, h] at hy
  rcases List.mem_append.1 hy with hy | hy
  · exact hb y hy
  · simp at hy; rw [hy]; exact hp

theorem idxL_calls (A0 : Option Addr) (c0 : Nat) (l : List Pr) (w : World) (hr0 : Kd.C k39 w A0 l.length l) (hl : l.length ≤ 9223372036854775807) :
    Calls Try.prog 36 #[.slice A0 l.length c0, .func (.func 31) #[] #[]] w fun e w' => e = .returned (.int .i64 (idxL l)) ∧ Below w.heap.size w w' := by
  have hu := Try.underlying39
  have HR := Aside0.mk hr0
  have HB0 := Aside0.mk (Below.refl w.heap.size w)
  clear hr0
  go_enter Try.func36, Try.ntmps36
  go_wp2
  go_loopg [8] (l.length) (fun kq v8 w' => ∃ i : Nat, v8 = .int .i64 i ∧ Aside0 (i ≤ l.length ∧ kq = l.length - i ∧ (∀ x ∈ l.take i, longP x = false)) ∧ Aside0 (Below w.heap.size w w'))
  case atStart => exact ⟨0, rfl, ⟨Nat.zero_le _, rfl, by simp⟩, HB0⟩
  case round =>
    obtain ⟨i, rfl, HI, HB⟩ := hrel
    by_cases hlt : i < l.length
    · obtain ⟨ad, B0, d0, B1, d1, rfl, hc0, hc1, hl0, hC0, hl1, hC1⟩ := at_T39 (Kd.C_below HR.out HB.out) (i : Int) (by omega) (by omega)
      obtain ⟨x, hxx⟩ : ∃ x, l[i]? = some x := ⟨_, List.getElem?_eq_getElem hlt⟩
      have hx : rd_T39 l (i : Int) = x := by simp [rd_T39, List.getD_eq_getElem?_getD, hxx]
      rw [hx] at hc0 hc1 hl0 hC0 hl1 hC1
      rw [Int.toNat_natCast] at hc0 hc1
      have q0 := hC0.2.1
      have q1 := hC1.2.1
      have HX := Aside0.mk hxx
      have HLT := Aside0.mk hlt
      have d1_ : decide ((i : Int) < (l.length : Int)) = true := decide_eq_true (by omega)
      have i1 : (0 ≤ (i : Int)) = True := eq_true (by omega)
      have i2 : ((i : Int) < (l.length : Int)) = True := eq_true (by omega)
      have i3 : (i < l.length) = True := eq_true hlt
      have hwr : wrap64 ((i : Int) + 1) = ((i + 1 : Nat) : Int) := by unfold wrap64; omega
      have Q0 := Aside0.mk q0
      have Q1 := Aside0.mk q1
      clear hlt hx hl0 hC0 hl1 hC1 hxx q0 q1
      cases hp : longP x with
      | true =>
        have HP := Aside0.mk hp
        have hcl := fun W => longP_calls x B0 B1 d0 d1 W Q0.out Q1.out
        rw [HP.out] at hcl
        have HCL := Aside0.mk hcl
        clear hp hcl
        go_wp2_with (first | (go_at_call 31; refine (HCL.out _).mono ?_; rintro e w2 ⟨rfl, hb⟩; have HB2 := Aside0.mk (HB.out.trans (hb.mono HB.out.size)); clear hb))
        go_ret
        exact ⟨by rw [idxL_hit HX.out HP.out HI.out.2.2]; rfl, HB2.out⟩
      | false =>
        have HP := Aside0.mk hp
        have hcl := fun W => longP_calls x B0 B1 d0 d1 W Q0.out Q1.out
        rw [HP.out] at hcl
        have HCL := Aside0.mk hcl
        clear hp hcl
        go_wp2_with (first | (go_at_call 31; refine (HCL.out _).mono ?_; rintro e w2 ⟨rfl, hb⟩; have HB2 := Aside0.mk (HB.out.trans (hb.mono HB.out.size)); clear hb))
        go_roundg (l.length - (i + 1))
        case measure => have := HI.out.2.1; have := HLT.out; omega
        case rel => exact ⟨i + 1, by rw [hwr], ⟨HLT.out, rfl, take_snoc_of HX.out HP.out HI.out.2.2⟩, HB2⟩
    · have d1_ : decide ((i : Int) < (l.length : Int)) = false := decide_eq_false (by omega)
      have d1b : decide (i < l.length) = false := decide_eq_false hlt
      have HLT := Aside0.mk hlt
      clear hlt
      go_wp2
      go_ret
      exact ⟨by rw [idxL_none (fun y hy => HI.out.2.2 y (by rw [List.take_of_length_le (by have := HLT.out; omega)]; exact hy))]; rfl, HB.out⟩

theorem anyL_calls (A0 : Option Addr) (c0 : Nat) (l : List Pr) (w : World) (hr0 : Kd.C k39 w A0 l.length l) (hl : l.length ≤ 9223372036854775807) :
    Calls Try.prog 30 #[.slice A0 l.length c0, .func (.func 31) #[] #[]] w fun e w' => e = .returned (.bool (l.any longP)) ∧ Below w.heap.size w w' := by
  have HR := Aside0.mk hr0
  clear hr0
  go_enter Try.func30, Try.ntmps30
  go_wp2_with (first | (go_at_call 36; refine (idxL_calls A0 c0 l _ HR.out hl).mono ?_; rintro e w2 ⟨rfl, hb⟩; have HB2 := Aside0.mk hb; clear hb))
  go_ret
  exact ⟨by rw [← idxL_any]; rfl, HB2.out⟩

end Go.Proofs.Yticddiiigfkamaa.P
