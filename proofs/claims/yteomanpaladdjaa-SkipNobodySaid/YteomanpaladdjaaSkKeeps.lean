/- SkipKeeps: the walk. No conditions. -/
import Derived.Test.YteomanpaladdjaaSkTowers
import Derived.Deep.Slices
import Derived.ChangeSame
import Derived.WalkKit
import Derived.ProofKit
import Derived.OpenShut
import Derived.ChangeOld
namespace Go.Proofs.Yteomanpaladdjaa.P
open Go.RowKit Go.Proofs.Yteomanpaladdjaa.Pure Go.Proofs.YteomanpaladdjaaW.PrintWords Go.Proofs.YteomanpaladdjaaW.PrintLast Go.Proofs.YteomanpaladdjaaW.PrintMore
set_option linter.unusedVariables false
set_option linter.unusedSimpArgs false
/-- A list of one's own, and nothing else. -/
def LS (w W : World) (g : Nat) (es : List En) (fr : Bool) : Prop := (∃ ok, SkS W w.heap.size ok g es fr) ∧ Below w.heap.size w W
theorem LS.below {w W W' : World} {g : Nat} {es : List En} {fr : Bool} (h : LS w W g es fr) (hb : Below W.heap.size W W') : LS w W' g es fr := by
  obtain ⟨⟨ok, h1⟩, h2⟩ := h
  exact ⟨⟨ok, h1.below hb⟩, h2.trans (hb.mono h2.size)⟩
theorem LS.freeze {w W : World} {g : Nat} {es : List En} {fr : Bool} (h : LS w W g es fr) : Calls Try.prog 17 #[.pointer (some ⟨g, 0, none⟩)] W fun e w' => e = .returned (.int .i64 (if fr = true then 7 else 0)) ∧ LS w w' g es true := by
  obtain ⟨⟨ok, h1⟩, h2⟩ := h
  refine (Freeze_S h1.bound).mono ?_
  rintro e w' ⟨rfl, hs, hz, hio, hf⟩
  exact ⟨rfl, ⟨_, hs⟩, h2.trans (hio.below hz (fun k hk => hf k (fun hk2 => by have := hk2.2.1; omega)))⟩
theorem LS.putFrozen {w W : World} {g : Nat} {es : List En} (h : LS w W g es true) (A : Option Addr) (c : Nat) (x : En) (height : Int) : Calls Try.prog 18 #[.pointer (some ⟨g, 0, none⟩), enV A c x, .int .i64 height] W fun e w' => e = .returned (.int .i64 (if height < 1 ∨ 8 < height then 1 else 7)) ∧ Below W.heap.size W w' := by
  obtain ⟨⟨ok, ns, he, h1⟩, h2⟩ := h
  have := Put_err W _ _ g ns _ _ true h1.mid A c x height es (.inr (.inr (.inl rfl)))
  have e1 : skErr es true x height = if height < 1 ∨ 8 < height then 1 else 7 := by
    unfold skErr
    split
    · rfl
    · rw [if_pos rfl]
  rw [e1] at this
  exact this
set_option maxHeartbeats 1000000 in
set_option maxRecDepth 100000 in
theorem SkipKeeps_walk (A0 : Option Addr) (c0 : Nat) (l : List En) (A1 : Option Addr) (c1 : Nat) (hs : List Int) (A2 : Option Addr) (c2 : Nat) (more : En) (height : Int) (w : World) (hr : Kd.C k38 w A0 l.length l) (hok : ∀ x ∈ l, Byt x ∧ OkAg x.f1) (hh : Kd.C (Kd.int .u8) w A1 hs.length hs) :
    Calls Try.prog 6 #[.slice A0 l.length c0, .slice A1 hs.length c1, enV A2 c2 more, .int .i64 height] w fun e w' => e = .returned (.bool true) ∧ Below w.heap.size w w' := by
  have hu4 := Try.underlying38
  have hu5 := Try.underlying36
  have HAL := Aside0.mk alive_calls
  by_cases hl : 100 < l.length
  · have d1 : decide ((100 : Int) < (l.length : Int)) = true := decide_eq_true (by omega)
    have d1b : decide (100 < l.length) = true := decide_eq_true hl
    clear hl hr hok hh
    go_enter Try.func6, Try.ntmps6
    go_wp2_with (first | (go_at_call 9; refine (HAL.out _).mono ?_; rintro e w1 ⟨rfl, hb⟩; have HB1 := Aside0.mk (show Below w.heap.size w w1 from (below_alloc (Below.refl _ _) _).trans (hb.mono (by rw [World.size_alloc]; omega))); clear hb))
    go_ret
    exact ⟨rfl, HB1.out⟩
  have d1 : decide ((100 : Int) < (l.length : Int)) = false := decide_eq_false (by omega)
  have d1b : decide (100 < l.length) = false := decide_eq_false hl
  by_cases hko : 1000 < more.f0.length
  · have d2 : decide ((1000 : Int) < (more.f0.length : Int)) = true := decide_eq_true (by omega)
    have d2b : decide (1000 < more.f0.length) = true := decide_eq_true hko
    clear hl hr hok hh hko
    go_enter Try.func6, Try.ntmps6
    go_wp2_with (first | (go_at_call 9; refine (HAL.out _).mono ?_; rintro e w1 ⟨rfl, hb⟩; have HB1 := Aside0.mk (show Below w.heap.size w w1 from (below_alloc (Below.refl _ _) _).trans (hb.mono (by rw [World.size_alloc]; omega))); clear hb))
    go_ret
    exact ⟨rfl, HB1.out⟩
  have d2 : decide ((1000 : Int) < (more.f0.length : Int)) = false := decide_eq_false (by omega)
  have d2b : decide (1000 < more.f0.length) = false := decide_eq_false hko
  have HL := Aside0.mk (show l.length ≤ 100 by omega)
  obtain ⟨V, hV⟩ : ∃ V, w.alloc (.cells (bxC A2 c2 more).toArray 38) = V := ⟨_, rfl⟩
  have hv : Below w.heap.size w V := by rw [← hV]; exact below_alloc (Below.refl _ _) _
  have HV := Aside0.mk hv
  have HBX := Aside0.mk (show V.heap[w.heap.size]? = some (.cells (bxC A2 c2 more).toArray 38 (0, 0)) by rw [← hV]; exact blk_new w _)
  have HP := Aside0.mk (put_calls A0 c0 l A1 c1 hs 0 V (Kd.C_below hr hv) (Kd.C_below hh hv) HL.out (by omega) hok)
  have HVE := Aside0.mk hV
  clear hv hV
  cases hpa : putAll l hs 0 with
  | none =>
    rw [hpa] at HP
    clear hpa hl hr hok hh hko
    go_enter Try.func6, Try.ntmps6
    go_upto_region 3 with (fail)
    first | rw [HVE.out] | (change Code.wp _ _ _ _ (w.alloc (.cells (bxC A2 c2 more).toArray 38)); rw [HVE.out])
    go_wp2_with (first
      | (go_at_call 10; refine (HP.out).mono ?_; rintro e w1 ⟨hb, rfl⟩; have HB0 := Aside0.mk (show Below w.heap.size w w1 from HV.out.trans (hb.mono HV.out.size)); clear hb)
      | (go_at_call 9; refine (HAL.out _).mono ?_; rintro e w3 ⟨rfl, hb⟩; have HB1 := Aside0.mk (show Below w.heap.size w w3 from HB0.out.trans (hb.mono HB0.out.size)); clear hb))
    go_ret
    exact ⟨rfl, HB1.out⟩
  | some es =>
    rw [hpa] at HP
    clear hpa hl hr hok hh hko
    obtain ⟨en, hen⟩ : ∃ n, es.length = n := ⟨_, rfl⟩
    have HEN := Aside0.mk hen
    clear hen
    go_enter Try.func6, Try.ntmps6
    go_upto_region 3 with (fail)
    first | rw [HVE.out] | (change Code.wp _ _ _ _ (w.alloc (.cells (bxC A2 c2 more).toArray 38)); rw [HVE.out])
    go_upto_region 7 with (first
      | (go_at_call 10; refine (HP.out).mono ?_; rintro e w1 ⟨hb, g, ok1, rfl, hs1, hg1⟩; have HS1 := Aside0.mk (show LS V w1 g es false from ⟨⟨_, hs1⟩, hb⟩); have HGD := Aside0.mk hg1; clear hb hs1 hg1)
      | (go_at_call 17; refine (LS.freeze HS1.out).mono ?_; rintro e w2 ⟨rfl, hs2⟩; have HS2 := Aside0.mk hs2; clear hs2)
      | (go_at_call 12; refine (SkS.all (w := w) HS2.out.1.choose_spec HGD.out en HEN.out).mono ?_; rintro e w3 ⟨A4, d4, rfl, hc, hle, hb⟩; have HS3 := Aside0.mk (LS.below HS2.out hb); have HC3 := Aside0.mk (And.intro hc hle); clear hb hc hle))
    have hbx := blk_below HBX.out HS3.out.2
    have m0 : w3.cell? ⟨w.heap.size, 0, none⟩ = some (.slice A2 more.f0.length c2) := (blk_cell hbx 0).trans rfl
    have m1 : w3.cell? ⟨w.heap.size, 1, none⟩ = some (.int .u64 more.f1.f0) := (blk_cell hbx 1).trans rfl
    have m2 : w3.cell? ⟨w.heap.size, 2, none⟩ = some (.bool more.f1.f1) := (blk_cell hbx 2).trans rfl
    have m3 : w3.cell? ⟨w.heap.size, 3, none⟩ = some (.int .i64 more.f1.f2.f0) := (blk_cell hbx 3).trans rfl
    have m4 : w3.cell? ⟨w.heap.size, 4, none⟩ = some (.int .u64 more.f1.f2.f1) := (blk_cell hbx 4).trans rfl
    have m5 : w3.cell? ⟨w.heap.size, 5, none⟩ = some (.int .i64 more.f1.f3) := (blk_cell hbx 5).trans rfl
    have m6 : w3.cell? ⟨w.heap.size, 6, none⟩ = some (.int .i64 more.f1.f4) := (blk_cell hbx 6).trans rfl
    have hpf := LS.putFrozen HS3.out A2 c2 more height
    clear hbx
    by_cases hh : height < 1 ∨ 8 < height
    · rw [if_pos hh] at hpf
      have HPF := Aside0.mk hpf
      clear hpf hh
      go_wp2_with (first
        | (go_at_call 18; refine (HPF.out).mono ?_; rintro e w4 ⟨rfl, hb⟩; have HS4 := Aside0.mk (LS.below HS3.out hb); have HC4 := Aside0.mk (And.intro (Kd.C_below HC3.out.1 hb) HC3.out.2); clear hb)
        | (go_at_call 9; refine (HAL.out _).mono ?_; rintro e w5 ⟨rfl, hb⟩; have HS5 := Aside0.mk (LS.below HS4.out hb); have HC5 := Aside0.mk (And.intro (Kd.C_below HC4.out.1 hb) HC4.out.2); clear hb)
        | (go_at_call 12; refine (SkS.all (w := w) HS5.out.1.choose_spec HGD.out en HEN.out).mono ?_; rintro e w6 ⟨A6, d6, rfl, hc, hle, hb⟩; have HS6 := Aside0.mk (LS.below HS5.out hb); have HC6 := Aside0.mk (And.intro (Kd.C_below HC5.out.1 hb) HC5.out.2); have HD6 := Aside0.mk (And.intro hc hle); clear hb hc hle)
        | (go_at_call 11; refine (same_C A6 d6 A4 d4 es en HEN.out HGD.out.most _ HD6.out.1 HD6.out.2 HC6.out.1 HC6.out.2).mono ?_; rintro e w7 ⟨rfl, hb⟩; have HS7 := Aside0.mk (LS.below HS6.out hb); clear hb)
        | (go_at_call 19; refine (Frozen_S HS7.out.1.choose_spec).mono ?_; rintro e w8 ⟨rfl, hb⟩; have HS8 := Aside0.mk (LS.below HS7.out hb); clear hb)
        | (go_at_call 17; refine (LS.freeze HS8.out).mono ?_; rintro e w9 ⟨rfl, hs9⟩; have HB9 := Aside0.mk (show Below w.heap.size w w9 from HV.out.trans (hs9.2.mono HV.out.size)); clear hs9))
      go_ret
      exact ⟨rfl, HB9.out⟩
    · rw [if_neg hh] at hpf
      have HPF := Aside0.mk hpf
      clear hpf hh
      go_wp2_with (first
        | (go_at_call 18; refine (HPF.out).mono ?_; rintro e w4 ⟨rfl, hb⟩; have HS4 := Aside0.mk (LS.below HS3.out hb); have HC4 := Aside0.mk (And.intro (Kd.C_below HC3.out.1 hb) HC3.out.2); clear hb)
        | (go_at_call 9; refine (HAL.out _).mono ?_; rintro e w5 ⟨rfl, hb⟩; have HS5 := Aside0.mk (LS.below HS4.out hb); have HC5 := Aside0.mk (And.intro (Kd.C_below HC4.out.1 hb) HC4.out.2); clear hb)
        | (go_at_call 12; refine (SkS.all (w := w) HS5.out.1.choose_spec HGD.out en HEN.out).mono ?_; rintro e w6 ⟨A6, d6, rfl, hc, hle, hb⟩; have HS6 := Aside0.mk (LS.below HS5.out hb); have HC6 := Aside0.mk (And.intro (Kd.C_below HC5.out.1 hb) HC5.out.2); have HD6 := Aside0.mk (And.intro hc hle); clear hb hc hle)
        | (go_at_call 11; refine (same_C A6 d6 A4 d4 es en HEN.out HGD.out.most _ HD6.out.1 HD6.out.2 HC6.out.1 HC6.out.2).mono ?_; rintro e w7 ⟨rfl, hb⟩; have HS7 := Aside0.mk (LS.below HS6.out hb); clear hb)
        | (go_at_call 19; refine (Frozen_S HS7.out.1.choose_spec).mono ?_; rintro e w8 ⟨rfl, hb⟩; have HS8 := Aside0.mk (LS.below HS7.out hb); clear hb)
        | (go_at_call 17; refine (LS.freeze HS8.out).mono ?_; rintro e w9 ⟨rfl, hs9⟩; have HB9 := Aside0.mk (show Below w.heap.size w w9 from HV.out.trans (hs9.2.mono HV.out.size)); clear hs9))
      go_ret
      exact ⟨rfl, HB9.out⟩
theorem SkipKeeps_row (A0 : Option Addr) (c0 : Nat) (l : List En) (A1 : Option Addr) (c1 : Nat) (hs : List Int) (A2 : Option Addr) (c2 : Nat) (more : En) (height : Int) (w : World) (hr : Kd.C k38 w A0 l.length l) (_ : l.length ≤ c0) (hok : ∀ x ∈ l, OkEn x) (hh : Kd.C (Kd.int .u8) w A1 hs.length hs) (_ : hs.length ≤ c1) (_ : ∀ x ∈ hs, 0 ≤ x ∧ x < 256) (_ : Kd.C (Kd.int .u8) w A2 more.f0.length more.f0) (_ : more.f0.length ≤ c2) (_ : OkEn more) (_ : (Lit.int .i64 height).wf = true) :
    Calls Try.prog 6 #[.slice A0 l.length c0, .slice A1 hs.length c1, enV A2 c2 more, .int .i64 height] w fun e w' => e = .returned (.bool true) ∧ Below w.heap.size w w' :=
  SkipKeeps_walk A0 c0 l A1 c1 hs A2 c2 more height w hr hok hh
end Go.Proofs.Yteomanpaladdjaa.P

namespace Go.Proofs.Yteomanpaladdjaa.P
open Go.ChangeShapes Go.WideShapes Go.ChangeAt Go.RowKit Go.Proofs.YteomanpaladdjaaW.PrintWords
set_option linter.unusedVariables false
set_option linter.unusedSimpArgs false
theorem open_entry {H : Type} {enc : TypeId × Value → H} {w : World} {base : Nat} {r : Reach} {v : Value} {x : DataW H} {ps : List MemPlace}
    (hval : Value.okWide Try.prog w r base 38 v) (h0 : DataW.Trod enc Try.prog w 0 (fun _ => true) true 38 v x ps) :
    ∃ (A : Option Addr) (c : Nat) (e : En), v = enV A c e ∧ e.f0.length ≤ c ∧ Kd.C (Kd.int .u8) w A e.f0.length e.f0 ∧ OkEn e := by
  obtain ⟨cs, rfl, hsz⟩ := okWide_struct Try.underlying38 hval
  obtain ⟨fuel, hf⟩ := h0
  obtain ⟨e, hK, hok⟩ := opens_entry.out H enc w fuel _ _ hf
  obtain ⟨A, c, hcs, hl, hC⟩ := k38_open hK
  have h2 : cs.toList = [.slice A e.f0.length c, .int .u64 e.f1.f0, .bool e.f1.f1, .int .i64 e.f1.f2.f0, .int .u64 e.f1.f2.f1, .int .i64 e.f1.f3, .int .i64 e.f1.f4] := hcs
  refine ⟨A, c, e, ?_, hl, hC, hok⟩
  show Value.agg cs = .agg #[.slice A e.f0.length c, .int .u64 e.f1.f0, .bool e.f1.f1, .int .i64 e.f1.f2.f0, .int .u64 e.f1.f2.f1, .int .i64 e.f1.f3, .int .i64 e.f1.f4]
  congr 1
  apply Array.toList_inj.1
  rw [h2]
end Go.Proofs.Yteomanpaladdjaa.P
