/- SkipTowers: the walk. No conditions. -/
import Derived.Test.YteomanpaladdjaaSkPure
import Derived.Test.YteomanpaladdjaaPrickyardref08Same
namespace Go.Proofs.Yteomanpaladdjaa.P
open Go.RowKit Go.Proofs.Yteomanpaladdjaa.Pure Go.Proofs.YteomanpaladdjaaW.PrintWords Go.Proofs.YteomanpaladdjaaW.PrintLast Go.Proofs.YteomanpaladdjaaW.PrintMore
set_option linter.unusedVariables false
set_option linter.unusedSimpArgs false
theorem bits1023 (x : Int) : ∃ k : Nat, k ≤ 1023 ∧ Go.bits .and .i64 x 1023 = (k : Int) := by
  unfold Go.bits
  refine ⟨(BitVec.ofInt 64 x &&& BitVec.ofInt 64 1023).toNat, ?_, ?_⟩
  · rw [BitVec.toNat_and]
    have h := Nat.and_le_right (n := (BitVec.ofInt 64 x).toNat) (m := (BitVec.ofInt 64 1023).toNat)
    have e : (BitVec.ofInt 64 1023).toNat = 1023 := by decide
    omega
  · have h : (BitVec.ofInt 64 x &&& BitVec.ofInt 64 1023).toNat ≤ 1023 := by
      rw [BitVec.toNat_and]
      have h := Nat.and_le_right (n := (BitVec.ofInt 64 x).toNat) (m := (BitVec.ofInt 64 1023).toNat)
      have e : (BitVec.ofInt 64 1023).toNat = 1023 := by decide
      omega
    show IntKind.i64.wrap (((BitVec.ofInt 64 x &&& BitVec.ofInt 64 1023).toNat : Nat) : Int) = _
    rw [IntWalk.i64_left]
    unfold wrap64; omega
theorem same_l0 (l : List En) (hl : l.length < 4611686018427387904) : ∀ (d i k : Nat), l.length - i = d → d < k → rickyardref08_Same.l0 k l l (i : Int) = some true
  | d, i, 0, _, h => absurd h (Nat.not_lt_zero _)
  | d, i, k + 1, hd, hk => by
    rw [rickyardref08_Same.l0]
    by_cases h1 : i < l.length
    · have ih := same_l0 l hl (d - 1) (i + 1) k (by omega) (by omega)
      rw [if_pos (by omega), if_pos (by omega), if_pos (by omega), if_pos rfl, if_neg (by simp), w64_up (by omega)]
      exact ih
    · rw [if_neg (by omega)]
theorem same_f (l : List En) (hl : l.length < 4611686018427387904) (k : Nat) (hk : l.length < k) : rickyardref08_Same.f k l l = some true := by
  unfold rickyardref08_Same.f
  rw [if_pos rfl]
  exact same_l0 l hl _ 0 k rfl (by omega)

theorem same_C (A : Option Addr) (c : Nat) (B : Option Addr) (d : Nat) (es : List En) (n : Nat) (hn : es.length = n) (hl : es.length ≤ 4096) (W : World) (h1 : k38.C W A n es) (h2 : n ≤ c) (h3 : k38.C W B n es) (h4 : n ≤ d) : Calls Try.prog 11 #[.slice A n c, .slice B n d] W fun e w' => e = .returned (.bool true) ∧ Below W.heap.size W w' := by
  subst hn
  refine (rickyardref08_Same.calls 5000 A c es B d es true W h1 h2 h3 h4 (same_f es (by omega) 5000 (by omega))).mono ?_
  rintro e w' ⟨rfl, hd⟩
  exact ⟨rfl, hd.below⟩
theorem SkS.all {w W : World} {base g : Nat} {ok : Nat → Prop} {es : List En} {fr : Bool} (h : SkS W base ok g es fr) (hg : GoodL es) (n : Nat) (hn : es.length = n) : Calls Try.prog 12 #[.pointer (some ⟨g, 0, none⟩)] W fun e w' => ∃ A c, e = .returned (.slice A n c) ∧ k38.C w' A n es ∧ n ≤ c ∧ Below W.heap.size W w' := by
  refine (All_S h hg).mono ?_
  rintro e w' ⟨v, rfl, hs, hb⟩
  obtain ⟨A, c, rfl⟩ := Kd.S_slice hs
  have hr := Kd.S_reads' hs
  rw [hn] at hr
  exact ⟨A, c, by rw [hn], hr.2.2, hr.2.1, hb⟩
set_option maxHeartbeats 4000000 in
set_option maxRecDepth 100000 in
theorem SkipTowers_walk (A0 : Option Addr) (c0 : Nat) (l : List En) (A1 : Option Addr) (c1 : Nat) (a : List Int) (A2 : Option Addr) (c2 : Nat) (b : List Int) (turn : Int) (w : World) (hr : Kd.C k38 w A0 l.length l) (hok : ∀ x ∈ l, Byt x ∧ OkAg x.f1) (ha : Kd.C (Kd.int .u8) w A1 a.length a) (hb : Kd.C (Kd.int .u8) w A2 b.length b) :
    Calls Try.prog 3 #[.slice A0 l.length c0, .slice A1 a.length c1, .slice A2 b.length c2, .int .i64 turn] w fun e w' => e = .returned (.bool true) ∧ Below w.heap.size w w' := by
  have HAL := Aside0.mk alive_calls
  have HR := Aside0.mk hr
  have HA := Aside0.mk ha
  have HB := Aside0.mk hb
  have HOK := Aside0.mk hok
  clear hr ha hb hok
  by_cases hl : 100 < l.length
  · have d1 : decide ((100 : Int) < (l.length : Int)) = true := decide_eq_true (by omega)
    have d1b : decide (100 < l.length) = true := decide_eq_true hl
    clear hl
    go_enter Try.func3, Try.ntmps3
    go_wp2_with (first | (go_at_call 9; refine (HAL.out _).mono ?_; rintro e w1 ⟨rfl, hb⟩; have HB1 := Aside0.mk hb; clear hb))
    go_ret
    exact ⟨rfl, HB1.out⟩
  · have d1 : decide ((100 : Int) < (l.length : Int)) = false := decide_eq_false (by omega)
    have d1b : decide (100 < l.length) = false := decide_eq_false hl
    have HL := Aside0.mk (show l.length ≤ 100 by omega)
    obtain ⟨k, hk, hkt⟩ := bits1023 turn
    have HP1 := Aside0.mk (put_calls A0 c0 l A1 c1 a 0 w HR.out HA.out HL.out (by omega) HOK.out)
    have HP2 := Aside0.mk (fun W (hW : Below w.heap.size w W) => put_calls A0 c0 l A2 c2 b k W (Kd.C_below HR.out hW) (Kd.C_below HB.out hW) HL.out hk HOK.out)
    have heq := put_all_eq (hs := b) (hs' := a) (t := k) (t' := 0) HL.out HOK.out
    clear hl hk
    cases hpa : putAll l a 0 with
    | none =>
      rw [hpa] at heq
      rw [hpa] at HP1
      rw [heq] at HP2
      clear hpa heq
      go_enter Try.func3, Try.ntmps3
      go_wp2_with (first
        | (go_at_call 10; refine (HP2.out w1 HB1.out).mono ?_; rintro e w2 ⟨hb, rfl⟩; have HB2 := Aside0.mk (HB1.out.trans (hb.mono HB1.out.size)); clear hb)
        | (go_at_call 10; refine (HP1.out).mono ?_; rintro e w1 ⟨hb, rfl⟩; have HB1 := Aside0.mk hb; clear hb)
        | (go_at_call 9; refine (HAL.out _).mono ?_; rintro e w3 ⟨rfl, hb⟩; have HB3 := Aside0.mk (HB2.out.trans (hb.mono HB2.out.size)); clear hb))
      go_ret
      exact ⟨rfl, HB3.out⟩
    | some es =>
      rw [hpa] at heq
      rw [hpa] at HP1
      rw [heq] at HP2
      clear hpa heq
      obtain ⟨n, hn⟩ : ∃ n, es.length = n := ⟨_, rfl⟩
      have HNN := Aside0.mk hn
      clear hn
      go_enter Try.func3, Try.ntmps3
      go_wp2_with (first
        | (go_at_call 10; refine (HP2.out w1 HB1.out).mono ?_; rintro e w2 ⟨hb, g2, ok2, rfl, hs2, hg2⟩; have HB2 := Aside0.mk (HB1.out.trans (hb.mono HB1.out.size)); have HS2 := Aside0.mk (And.intro hs2 hg2); have HX2 := Aside0.mk (SkS.below HS1.out.1 hb); clear hb hs2 hg2)
        | (go_at_call 10; refine (HP1.out).mono ?_; rintro e w1 ⟨hb, g1, ok1, rfl, hs1, hg1⟩; have HB1 := Aside0.mk hb; have HS1 := Aside0.mk (And.intro hs1 hg1); clear hb hs1 hg1)
        | (go_at_call 9; refine (HAL.out _).mono ?_; rintro e w3 ⟨rfl, hb⟩; have HB3 := Aside0.mk (HB2.out.trans (hb.mono HB2.out.size)); have HX3 := Aside0.mk (SkS.below HX2.out hb); have HY3 := Aside0.mk (SkS.below HS2.out.1 hb); clear hb)
        | (go_at_call 12; refine (SkS.all (w := w) HY4.out HS2.out.2 n HNN.out).mono ?_; rintro e w5 ⟨A5, d5, rfl, hc, hle, hb⟩; have HB5 := Aside0.mk (HB4.out.trans (hb.mono HB4.out.size)); have HX5 := Aside0.mk (SkS.below HX4.out hb); have HY5 := Aside0.mk (SkS.below HY4.out hb); have HC5 := Aside0.mk (And.intro (And.intro hc hle) (And.intro (Kd.C_below HC4.out.1 hb) HC4.out.2)); clear hb hc hle)
        | (go_at_call 12; refine (SkS.all (w := w) HX3.out HS1.out.2 n HNN.out).mono ?_; rintro e w4 ⟨A4, d4, rfl, hc, hle, hb⟩; have HB4 := Aside0.mk (HB3.out.trans (hb.mono HB3.out.size)); have HX4 := Aside0.mk (SkS.below HX3.out hb); have HY4 := Aside0.mk (SkS.below HY3.out hb); have HC4 := Aside0.mk (And.intro hc hle); clear hb hc hle)
        | (go_at_call 11; refine (same_C A4 d4 A5 d5 es n HNN.out HS1.out.2.most _ HC5.out.2.1 HC5.out.2.2 HC5.out.1.1 HC5.out.1.2).mono ?_; rintro e w6 ⟨rfl, hb⟩; have HB6 := Aside0.mk (HB5.out.trans (hb.mono HB5.out.size)); have HX6 := Aside0.mk (SkS.below HX5.out hb); have HY6 := Aside0.mk (SkS.below HY5.out hb); clear hb)
        | (go_at_call 13; refine (Size_S HY7.out).mono ?_; rintro e w8 ⟨rfl, hb⟩; have HB8 := Aside0.mk (HB7.out.trans (hb.mono HB7.out.size)); clear hb)
        | (go_at_call 13; refine (Size_S HX6.out).mono ?_; rintro e w7 ⟨rfl, hb⟩; have HB7 := Aside0.mk (HB6.out.trans (hb.mono HB6.out.size)); have HY7 := Aside0.mk (SkS.below HY6.out hb); clear hb))
      go_ret
      exact ⟨rfl, HB8.out⟩
theorem SkipTowers_row (A0 : Option Addr) (c0 : Nat) (l : List En) (A1 : Option Addr) (c1 : Nat) (a : List Int) (A2 : Option Addr) (c2 : Nat) (b : List Int) (turn : Int) (w : World) (hr : Kd.C k38 w A0 l.length l) (_ : l.length ≤ c0) (hok : ∀ x ∈ l, OkEn x) (ha : Kd.C (Kd.int .u8) w A1 a.length a) (_ : a.length ≤ c1) (_ : ∀ x ∈ a, 0 ≤ x ∧ x < 256) (hb : Kd.C (Kd.int .u8) w A2 b.length b) (_ : b.length ≤ c2) (_ : ∀ x ∈ b, 0 ≤ x ∧ x < 256) (_ : (Lit.int .i64 turn).wf = true) :
    Calls Try.prog 3 #[.slice A0 l.length c0, .slice A1 a.length c1, .slice A2 b.length c2, .int .i64 turn] w fun e w' => e = .returned (.bool true) ∧ Below w.heap.size w w' :=
  SkipTowers_walk A0 c0 l A1 c1 a A2 c2 b turn w hr hok ha hb
end Go.Proofs.Yteomanpaladdjaa.P
