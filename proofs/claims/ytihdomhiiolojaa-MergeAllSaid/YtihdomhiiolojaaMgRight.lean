/- agg.Right, by hand: what may be known. No conditions. -/
import Derived.Test.YtihdomhiiolojaaPEq0
import Derived.Test.YtihdomhiiolojaaPx0
import Derived.Test.YtihdomhiiolojaaCmpOrd
import Derived.BigQuiet
namespace Go.Proofs.Ytihdomhiiolojaa.P
open Go.RowKit Go.Proofs.YtihdomhiiolojaaW.PrintWords Go.Proofs.YtihdomhiiolojaaW.PrintLast Go.Proofs.YtihdomhiiolojaaW.PrintMore
set_option linter.unusedVariables false
set_option linter.unusedSimpArgs false

abbrev Ag := S39
abbrev agV (x : Ag) : Value := .agg #[.int .u64 x.f0, .bool x.f1, .int .i64 x.f2.f0, .int .u64 x.f2.f1, .int .i64 x.f3, .int .i64 x.f4]
/-- Is this known of facts? -/
def rightB (x : Ag) : Bool := if x.f0 = 0 then (!x.f1 && (((x.f2.f0 == 0) && (x.f2.f1 == 0)) && ((x.f3 == 0) && (x.f4 == 0)))) else (decide (x.f3 ≤ x.f4) && (!x.f1 || (x.f0 == 18446744073709551615)))
set_option maxHeartbeats 1000000 in
theorem aggRight_calls (x : Ag) (w : World) : Calls Try.prog 33 #[agV x] w fun e w' => e = .returned (.bool (rightB x)) ∧ Below w.heap.size w w' := by
  have hu := Try.underlying39
  obtain ⟨n, o, ⟨hi, lo⟩, mn, mx⟩ := x
  unfold rightB agV
  simp only []
  have HB := Aside0.mk ((Below.refl w.heap.size w).alloc (Nat.le_refl _) (.cells #[.int .u64 n, .bool o, .int .i64 hi, .int .u64 lo, .int .i64 mn, .int .i64 mx] 39))
  by_cases h : n = 0
  · subst h
    have he := fun d w => eqA39 d w 0 0 o false hi 0 lo 0 mn 0 mx 0
    go_enter Try.func33, Try.ntmps33
    go_wp2
    go_ret
    refine ⟨?_, HB.out⟩
    cases o <;> simp
  · have d1 : (n == 0) = false := beq_eq_false_iff_ne.2 h
    by_cases h2 : mn ≤ mx
    · have d2 : decide (mn ≤ mx) = true := decide_eq_true h2
      cases o with
      | true =>
        go_enter Try.func33, Try.ntmps33
        go_wp2
        go_ret
        exact ⟨by simp [h, h2], HB.out⟩
      | false =>
        go_enter Try.func33, Try.ntmps33
        go_wp2
        go_ret
        exact ⟨by simp [h, h2], HB.out⟩
    · have d2 : decide (mn ≤ mx) = false := decide_eq_false h2
      go_enter Try.func33, Try.ntmps33
      go_wp2
      go_ret
      exact ⟨by simp [h, h2], HB.out⟩
end Go.Proofs.Ytihdomhiiolojaa.P

namespace Go.Proofs.Ytihdomhiiolojaa.P
open Go.RowKit Go.Proofs.YtihdomhiiolojaaW.PrintWords Go.Proofs.YtihdomhiiolojaaW.PrintLast Go.Proofs.YtihdomhiiolojaaW.PrintMore
set_option linter.unusedVariables false
set_option linter.unusedSimpArgs false

abbrev En := S41
/-- What right's closure asks. -/
def wrongP (x : En) : Bool := !(rightB x.f1)
abbrev enV (A : Option Addr) (c : Nat) (x : En) : Value := .agg #[.slice A x.f0.length c, .int .u64 x.f1.f0, .bool x.f1.f1, .int .i64 x.f1.f2.f0, .int .u64 x.f1.f2.f1, .int .i64 x.f1.f3, .int .i64 x.f1.f4]
theorem rdEn {l : List En} {i : Nat} {p : En} (h : l[i]? = some p) : rd_T41 l (i : Int) = p := by simp [rd_T41, List.getD_eq_getElem?_getD, h]
/-- An entry in a row that is read. -/
theorem at_en {w : World} {A : Option Addr} {l : List En} (h : Kd.C k41 w A l.length l) {i : Nat} {x : En} (hx : l[i]? = some x) :
    ∃ ad B d, A = some ad ∧ w.cell? (ad.add (i * 7)) = some (.slice B x.f0.length d) ∧ w.cell? ⟨(ad.add (i * 7)).block, (ad.add (i * 7)).off + 1, none⟩ = some (.int .u64 x.f1.f0) ∧ w.cell? ⟨(ad.add (i * 7)).block, (ad.add (i * 7)).off + 2, none⟩ = some (.bool x.f1.f1) ∧ w.cell? ⟨(ad.add (i * 7)).block, (ad.add (i * 7)).off + 3, none⟩ = some (.int .i64 x.f1.f2.f0) ∧ w.cell? ⟨(ad.add (i * 7)).block, (ad.add (i * 7)).off + 4, none⟩ = some (.int .u64 x.f1.f2.f1) ∧ w.cell? ⟨(ad.add (i * 7)).block, (ad.add (i * 7)).off + 5, none⟩ = some (.int .i64 x.f1.f3) ∧ w.cell? ⟨(ad.add (i * 7)).block, (ad.add (i * 7)).off + 6, none⟩ = some (.int .i64 x.f1.f4) ∧ x.f0.length ≤ d ∧ Kd.C (Kd.int .u8) w B x.f0.length x.f0 := by
  have hi := (List.getElem?_eq_some_iff.1 hx).1
  obtain ⟨ad, B, d, e, h0, h1, h2, h3, h4, h5, h6, hl, hC⟩ := at_T41 h (i : Int) (by omega) (by omega)
  rw [rdEn hx] at h0 h1 h2 h3 h4 h5 h6 hl hC
  rw [Int.toNat_natCast] at h0 h1 h2 h3 h4 h5 h6
  exact ⟨ad, B, d, e, h0, h1, h2, h3, h4, h5, h6, hl, hC⟩
theorem wrongP_calls (x : En) (A : Option Addr) (c : Nat) (w : World) :
    Calls Try.prog 32 #[enV A c x] w fun e w' => e = .returned (.bool (wrongP x)) ∧ Below w.heap.size w w' := by
  have hu := Try.underlying41
  have hu2 := Try.underlying39
  obtain ⟨b, hb⟩ : ∃ b, rightB x.f1 = b := ⟨_, rfl⟩
  unfold wrongP enV
  have HAG := Aside0.mk (fun W => aggRight_calls x.f1 W)
  rw [hb] at HAG ⊢
  clear hb
  go_enter Try.func32, Try.ntmps32
  go_wp2_with (first | (go_at_call 33; refine (HAG.out _).mono ?_; rintro e w2 ⟨rfl, hb⟩; have HB2 := Aside0.mk (((Below.refl w.heap.size w).alloc (Nat.le_refl _) _).trans (hb.mono (by simp))); clear hb))
  go_ret
  exact ⟨rfl, HB2.out⟩
/-- The first place of one that p tells, or -1. -/
def idxI {α : Type} (p : α → Bool) (l : List α) : Int := match l.findIdx? p with | some i => (i : Int) | none => -1
theorem idxI_hit {α : Type} {p : α → Bool} {l : List α} {i : Nat} {x : α} (h : l[i]? = some x) (hp : p x = true) (hb : ∀ y ∈ l.take i, p y = false) : idxI p l = i := by
  obtain ⟨hi, hx⟩ := List.getElem?_eq_some_iff.1 h
  have : l.findIdx? p = some i := by
    rw [List.findIdx?_eq_some_iff_getElem]
    refine ⟨hi, by rw [hx]; exact hp, fun j hj => ?_⟩
    rw [hb _ (by rw [List.mem_take_iff_getElem]; exact ⟨j, by omega, rfl⟩)]
    simp
  rw [idxI, this]
theorem idxI_none {α : Type} {p : α → Bool} {l : List α} (h : ∀ y ∈ l, p y = false) : idxI p l = -1 := by
  have : l.findIdx? p = none := List.findIdx?_eq_none_iff.2 h
  rw [idxI, this]
theorem idxI_any {α : Type} (p : α → Bool) (l : List α) : decide (0 ≤ idxI p l) = l.any p := by
  unfold idxI
  cases h : l.findIdx? p with
  | none =>
    have := List.findIdx?_eq_none_iff.1 h
    have e : l.any p = false := by rw [List.any_eq_false]; intro x hx; rw [this x hx]; simp
    rw [e]; rfl
  | some i =>
    obtain ⟨hi, hp, _⟩ := List.findIdx?_eq_some_iff_getElem.1 h
    have e : l.any p = true := List.any_eq_true.2 ⟨_, List.getElem_mem hi, hp⟩
    rw [e]
    exact decide_eq_true (by simp)
theorem take_snocI {α : Type} {p : α → Bool} {l : List α} {i : Nat} {x : α} (h : l[i]? = some x) (hp : p x = false) (hb : ∀ y ∈ l.take i, p y = false) : ∀ y ∈ l.take (i + 1), p y = false := by
  intro y hy
  rw [List.take_add_one, h] at hy
  rcases List.mem_append.1 hy with hy | hy
  · exact hb y hy
  · simp at hy; rw [hy]; exact hp
set_option maxHeartbeats 1000000 in
theorem idxW_calls (A0 : Option Addr) (c0 : Nat) (l : List En) (w : World) (hr0 : Kd.C k41 w A0 l.length l) :
    Calls Try.prog 39 #[.slice A0 l.length c0, .func (.func 32) #[] #[]] w fun e w' => e = .returned (.int .i64 (idxI wrongP l)) ∧ Below w.heap.size w w' := by
  have hu := Try.underlying41
  have hl := hr0.2.1
  have HR := Aside0.mk hr0
  have HB0 := Aside0.mk (Below.refl w.heap.size w)
  clear hr0
  go_enter Try.func39, Try.ntmps39
  go_wp2
  go_loopg [8] (l.length) (fun kq v8 w' => ∃ i : Nat, v8 = .int .i64 i ∧ Aside0 (i ≤ l.length ∧ kq = l.length - i ∧ (∀ x ∈ l.take i, wrongP x = false)) ∧ Aside0 (Below w.heap.size w w'))
  case atStart => exact ⟨0, rfl, ⟨Nat.zero_le _, rfl, by simp⟩, HB0⟩
  case round =>
    obtain ⟨i, rfl, HI, HB⟩ := hrel
    by_cases hlt : i < l.length
    · obtain ⟨x, hxx⟩ : ∃ x, l[i]? = some x := ⟨_, List.getElem?_eq_getElem hlt⟩
      obtain ⟨ad, B0, d0, rfl, hc0, hc1, hc2, hc3, hc4, hc5, hc6, hl0, hC0⟩ := at_en (Kd.C_below HR.out HB.out) hxx
      have HX := Aside0.mk hxx
      have HLT := Aside0.mk hlt
      have d1_ : decide ((i : Int) < (l.length : Int)) = true := decide_eq_true (by omega)
      have i1 : (0 ≤ (i : Int)) = True := eq_true (by omega)
      have i2 : ((i : Int) < (l.length : Int)) = True := eq_true (by omega)
      have i3 : (i < l.length) = True := eq_true hlt
      have hwr : wrap64 ((i : Int) + 1) = ((i + 1 : Nat) : Int) := by unfold wrap64; omega
      clear hlt hl0 hC0 hxx
      obtain ⟨b, hb⟩ : ∃ b, wrongP x = b := ⟨_, rfl⟩
      have HP := Aside0.mk hb
      have hcl := fun W => wrongP_calls x B0 d0 W
      rw [hb] at hcl
      have HCL := Aside0.mk hcl
      clear hb hcl
      cases b with
      | true =>
        go_wp2_with (first | (go_at_call 32; refine (HCL.out _).mono ?_; rintro e w2 ⟨rfl, hb⟩; have HB2 := Aside0.mk (HB.out.trans (hb.mono HB.out.size)); clear hb))
        go_ret
        exact ⟨by rw [idxI_hit HX.out HP.out HI.out.2.2]; rfl, HB2.out⟩
      | false =>
        go_wp2_with (first | (go_at_call 32; refine (HCL.out _).mono ?_; rintro e w2 ⟨rfl, hb⟩; have HB2 := Aside0.mk (HB.out.trans (hb.mono HB.out.size)); clear hb))
        go_roundg (l.length - (i + 1))
        case measure => have := HI.out.2.1; have := HLT.out; omega
        case rel => exact ⟨i + 1, by first | rfl | rw [hwr], ⟨HLT.out, rfl, take_snocI HX.out HP.out HI.out.2.2⟩, HB2⟩
    · have d1_ : decide ((i : Int) < (l.length : Int)) = false := decide_eq_false (by omega)
      have d1b : decide (i < l.length) = false := decide_eq_false hlt
      have HLT := Aside0.mk hlt
      clear hlt
      go_wp2
      go_ret
      exact ⟨by rw [idxI_none (fun y hy => HI.out.2.2 y (by rw [List.take_of_length_le (by have := HLT.out; omega)]; exact hy))]; rfl, HB.out⟩
theorem anyW_calls (A0 : Option Addr) (c0 : Nat) (l : List En) (w : World) (hr0 : Kd.C k41 w A0 l.length l) :
    Calls Try.prog 31 #[.slice A0 l.length c0, .func (.func 32) #[] #[]] w fun e w' => e = .returned (.bool (l.any wrongP)) ∧ Below w.heap.size w w' := by
  have HR := Aside0.mk hr0
  clear hr0
  go_enter Try.func31, Try.ntmps31
  go_wp2_with (first | (go_at_call 39; refine (idxW_calls A0 c0 l _ HR.out).mono ?_; rintro e w2 ⟨rfl, hb⟩; have HB2 := Aside0.mk hb; clear hb))
  go_ret
  exact ⟨by rw [← idxI_any]; rfl, HB2.out⟩
/-- Do the keys rise? -/
def risesE : List En → Bool
  | a :: b :: l => decide (cmpI a.f0 b.f0 < 0) && risesE (b :: l)
  | _ => true
theorem risesE_step {l : List En} {i : Nat} {x y : En} (hx : l[i]? = some x) (hy : l[i + 1]? = some y) : risesE (l.drop i) = (decide (cmpI x.f0 y.f0 < 0) && risesE (l.drop (i + 1))) := by
  obtain ⟨h1, e1⟩ := List.getElem?_eq_some_iff.1 hx
  obtain ⟨h2, e2⟩ := List.getElem?_eq_some_iff.1 hy
  rw [List.drop_eq_getElem_cons h1, e1, List.drop_eq_getElem_cons h2, e2, risesE]
theorem risesE_end {l : List En} {i : Nat} (h : l.length ≤ i + 1) : risesE (l.drop i) = true := by
  have hd : (l.drop i).length ≤ 1 := by rw [List.length_drop]; omega
  match l.drop i, hd with
  | [], _ => rfl
  | [a], _ => rfl
/-- What right tells. -/
def mrightE (l : List En) : Int := if risesE l then (if l.any wrongP then 3 else 0) else 50
theorem geI_run (P : Program) (x y : Int) (w : World) : True := trivial
set_option maxHeartbeats 2000000 in
set_option maxRecDepth 100000 in
theorem mright_calls (A0 : Option Addr) (c0 : Nat) (l : List En) (w : World) (hr0 : Kd.C k41 w A0 l.length l) :
    Calls Try.prog 20 #[.slice A0 l.length c0] w fun e w' => e = .returned (.int .i64 (mrightE l)) ∧ Below w.heap.size w w' := by
  have hu := Try.underlying41
  have hm := hr0.2.1
  obtain ⟨r, hr⟩ : ∃ r, mrightE l = r := ⟨_, rfl⟩
  rw [hr]
  have HRES := Aside0.mk hr
  have HR := Aside0.mk hr0
  have HB0 := Aside0.mk (Below.refl w.heap.size w)
  have HAN := Aside0.mk (fun W (hb : Below w.heap.size w W) => anyW_calls A0 c0 l W (Kd.C_below hr0 hb))
  clear hr0 hr
  go_enter Try.func20, Try.ntmps20
  go_wp2
  go_loopg [6] (l.length) (fun kq v6 w' => ∃ i : Nat, v6 = .int .i64 (i : Int) ∧ Aside0 (i ≤ l.length ∧ kq = l.length - i ∧ risesE l = risesE (l.drop (i - 1))) ∧ Aside0 (Below w.heap.size w w'))
  case atStart => exact ⟨0, rfl, ⟨Nat.zero_le _, rfl, rfl⟩, HB0⟩
  case round =>
    obtain ⟨i, rfl, HI, HB⟩ := hrel
    by_cases hlt : i < l.length
    case neg =>
      have d1_ : decide ((i : Int) < (l.length : Int)) = false := decide_eq_false (by omega)
      have d1b : decide (i < l.length) = false := decide_eq_false hlt
      have hri : risesE l = true := by rw [HI.out.2.2]; exact risesE_end (by omega)
      have hres := HRES.out
      unfold mrightE at hres
      rw [hri, if_pos rfl] at hres
      have HRR := Aside0.mk hres
      obtain ⟨b, hb⟩ : ∃ b, l.any wrongP = b := ⟨_, rfl⟩
      rw [hb] at HAN HRR
      clear hlt hri hres hb
      cases b with
      | true =>
        go_wp2_with (first | (go_at_call 31; refine (HAN.out _ HB.out).mono ?_; rintro e w2 ⟨rfl, hb⟩; have HB2 := Aside0.mk (HB.out.trans (hb.mono HB.out.size)); clear hb))
        go_ret
        exact ⟨by rw [← HRR.out]; rfl, HB2.out⟩
      | false =>
        go_wp2_with (first | (go_at_call 31; refine (HAN.out _ HB.out).mono ?_; rintro e w2 ⟨rfl, hb⟩; have HB2 := Aside0.mk (HB.out.trans (hb.mono HB.out.size)); clear hb))
        go_ret
        exact ⟨by rw [← HRR.out]; rfl, HB2.out⟩
    have d1_ : decide ((i : Int) < (l.length : Int)) = true := decide_eq_true (by omega)
    have d1b : decide (i < l.length) = true := decide_eq_true hlt
    have hwr : wrap64 ((i : Int) + 1) = ((i + 1 : Nat) : Int) := by unfold wrap64; omega
    have HLT := Aside0.mk hlt
    by_cases hi0 : i = 0
    · have z1 : decide (0 < (i : Int)) = false := decide_eq_false (by omega)
      have z1b : decide (0 < i) = false := decide_eq_false (by omega)
      have HRI := Aside0.mk (show risesE l = risesE (l.drop i) by have := HI.out.2.2; rw [hi0] at this ⊢; exact this)
      clear hlt hi0
      go_wp2
      repeat (go_quiet (fail); try go_wp2)
      go_roundg (l.length - (i + 1))
      case measure => have := HI.out.2.1; have := HLT.out; omega
      case rel => exact ⟨i + 1, by first | rfl | rw [hwr], ⟨HLT.out, rfl, HRI.out⟩, ⟨by repeat (first | exact HB.out | apply pw_below_drewN | apply below_drew1)⟩⟩
    obtain ⟨j, hj⟩ : ∃ j, i = j + 1 := ⟨i - 1, by omega⟩
    obtain ⟨x, hxx⟩ : ∃ x, l[j]? = some x := ⟨_, List.getElem?_eq_getElem (by omega)⟩
    obtain ⟨y, hyy⟩ : ∃ y, l[i]? = some y := ⟨_, List.getElem?_eq_getElem hlt⟩
    have hC := Kd.C_below HR.out HB.out
    obtain ⟨ad, B0, d0, rfl, hc0, _, _, _, _, _, _, hl0, hC0⟩ := at_en hC hxx
    obtain ⟨ad2, B1, d1, e_, hc1, _, _, _, _, _, _, hl1, hC1⟩ := at_en hC hyy
    cases e_
    have hst := risesE_step hxx (by rw [← hj]; exact hyy)
    rw [← hj] at hst
    have hcm := cmp_quiet (c0 := d0) (c1 := d1) hC0 hl0 hC1 hl1
    obtain ⟨cc, hcc⟩ : ∃ c, cmpI x.f0 y.f0 = c := ⟨_, rfl⟩
    rw [hcc] at hst hcm
    have HST := Aside0.mk (show risesE l = (decide (cc < 0) && risesE (l.drop i)) by rw [HI.out.2.2, show i - 1 = j by omega]; exact hst)
    have HCM := Aside0.mk hcm
    have z1 : decide (0 < (i : Int)) = true := decide_eq_true (by omega)
    have z1b : decide (0 < i) = true := decide_eq_true (by omega)
    have hw1 : wrap64 ((i : Int) - 1) = (j : Int) := by unfold wrap64; omega
    have hw1b : IntKind.i64.wrap ((i : Int) - 1) = (j : Int) := by rw [IntWalk.i64_left]; exact hw1
    have i1 : (0 ≤ (i : Int)) = True := eq_true (by omega)
    have i2 : ((i : Int) < (l.length : Int)) = True := eq_true (by omega)
    have i3 : (i < l.length) = True := eq_true hlt
    have j1 : (0 ≤ (j : Int)) = True := eq_true (by omega)
    have j2 : ((j : Int) < (l.length : Int)) = True := eq_true (by omega)
    have j3 : (j < l.length) = True := eq_true (by omega)
    by_cases hcn : 0 ≤ cc
    · have d2 : decide (0 ≤ cc) = true := decide_eq_true hcn
      have HRR := Aside0.mk (show r = 50 by
        have hres := HRES.out
        unfold mrightE at hres
        rw [HST.out, decide_eq_false (by omega), Bool.false_and, if_neg (by decide)] at hres
        exact hres.symm)
      clear hlt hi0 hj hxx hyy hC hl0 hC0 hl1 hC1 hst hcm hcc hcn
      go_wp2
      go_quiet ((go_at_call 30; exact HCM.out _))
      go_wp2
      go_ret
      refine ⟨by rw [HRR.out]; rfl, pw_below_drewN HB.out _⟩
    · have d2 : decide (0 ≤ cc) = false := decide_eq_false hcn
      have HRI := Aside0.mk (show risesE l = risesE (l.drop i) by rw [HST.out, decide_eq_true (by omega), Bool.true_and])
      clear hlt hi0 hj hxx hyy hC hl0 hC0 hl1 hC1 hst hcm hcc hcn
      go_wp2
      go_quiet ((go_at_call 30; exact HCM.out _))
      go_wp2
      go_roundg (l.length - (i + 1))
      case measure => have := HI.out.2.1; have := HLT.out; omega
      case rel => exact ⟨i + 1, by first | rfl | rw [hwr], ⟨HLT.out, rfl, HRI.out⟩, ⟨pw_below_drewN HB.out _⟩⟩
end Go.Proofs.Ytihdomhiiolojaa.P
