/- BloomLives' walk. No conditions. -/
import Derived.Test.YtliafeandefocaaBloomRW
namespace Go.Proofs.Ytliafeandefocaa.P
open Go.RowKit Go.Proofs.YtliafeandefocaaW.PrintWords Go.Proofs.YtliafeandefocaaW.PrintLast Go.Proofs.YtliafeandefocaaW.PrintMore
set_option linter.unusedVariables false
set_option linter.unusedSimpArgs false

structure LivesI (w : World) (g b rg rd n : Nat) (h : Int) (l : List (List Int)) (i : Nat) (W : World) : Prop where
  k1 : KeysI w g b n h l i W
  k2 : RFlt W rg rd h (RD n (bitsAt n h l i))
  d1 : g ≠ rd
  d2 : b ≠ rd
  d3 : rg ≠ b
  d4 : rd < rg
  d5 : w.heap.size ≤ rd
theorem LivesI.below {w A C : World} {g b rg rd n : Nat} {h : Int} {l : List (List Int)} {i : Nat} (H : LivesI w g b rg rd n h l i A) (hb : Below A.heap.size A C) : LivesI w g b rg rd n h l i C := ⟨H.k1.below hb, H.k2.below hb, H.d1, H.d2, H.d3, H.d4, H.d5⟩
theorem KeysI.far2 {w A C : World} {g b n : Nat} {h : Int} {l : List (List Int)} {i k : Nat} (H : KeysI w g b n h l i A) (hg : A.grownBy C (some k)) (h1 : g ≠ k) (h2 : b ≠ k) (h3 : w.heap.size ≤ k) : KeysI w g b n h l i C :=
  ⟨H.fl.grown hg h1 h2, H.be.grown hg H.be.size (fun q hq => by cases hq; exact h3), H.gl, H.bl⟩
theorem RFlt.grown {A C : World} {g d k : Nat} {h : Int} {D : List Bool} (H : RFlt A g d h D) (hg : A.grownBy C (some k)) (h1 : g ≠ k) (h2 : d ≠ k) : RFlt C g d h D :=
  H.keep (hg.block _ H.gt (by simpa using h1)) (hg.block _ H.btlt (by simpa using h2))
theorem keys_add2 {w W : World} {g b n : Nat} {h : Int} {l : List (List Int)} {i : Nat} (H : KeysI w g b n h l i W) (h1 : 1 ≤ h) (h2 : h ≤ 8) (n1 : 1 ≤ n) (n2 : n ≤ 8192) (hi : i < l.length) {A : Option Addr} {c : Nat} {key : List Int} (hkey : l.getD i [] = key)
    (hr : Kd.C (Kd.int .u8) W A key.length key) (hc : key.length ≤ c) :
    Calls Try.prog 13 #[ptr g, .slice A key.length c] W fun e w' => e = .returned (.int .i64 0) ∧ KeysI w g b n h l (i + 1) w' ∧ W.grownBy w' (some b) := by
  subst hkey
  refine (add_calls g b h _ A c _ W H.fl h1 (by omega) (by rw [bitsAt_length]; exact n1) (by rw [bitsAt_length]; exact n2) (bitsAt_bytes n h l i) hr hc).mono fun e w' ⟨a1, a2, a3⟩ => ⟨a1, ?_, a3⟩
  rw [bitsAt_length] at a2
  exact H.next hi a2 a3
theorem cell_below2 {w C : World} {a : Addr} {v : Value} (h : w.cell? a = some v) (hb : Below w.heap.size w C) : C.cell? a = some v := (World.cell?_of_block (hb.block _ (block_of_cell h))).trans h
/-- A row that was there before is away from what came later. -/
theorem row_far {w : World} {A : Option Addr} {n : Nat} {key : List Int} (h : Kd.C (Kd.int .u8) w A n key) {d : Nat} (hd : w.heap.size ≤ d) : ∀ ad, A = some ad → 0 < n → ad.block ≠ d := by
  intro ad e h0
  obtain ⟨k1, k2, k3⟩ := Kd.reads_of_C (d := (0 : Int)) h
  obtain ⟨ad', e', hc⟩ := k3 h0
  rw [e] at e'
  cases e'
  have := block_of_cell (hc 0 h0)
  have e2 : ad.add 0 = ad := by simp [Addr.add]
  rw [e2] at this
  omega

theorem write_read2 (g b : Nat) (h : Int) (l : List Int) (w : World) (hF : Flt w g b h l) (hh : 1 ≤ h) (hh2 : h ≤ 255) (hl2 : l.length ≤ 8192) :
    Calls Try.prog 18 #[ptr g] w fun e w' => ∃ A c, e = .returned (.tuple #[.slice A (h :: l).length c, .int .i64 0]) ∧ Kd.C (Kd.int .u8) w' A (h :: l).length (h :: l) ∧ (∀ ad, A = some ad → w.heap.size ≤ ad.block) ∧ Below w.heap.size w w' := by
  refine (write_calls g b h l w hF hh hh2 hl2).mono fun e w' ⟨v, he, hR, hb⟩ => ?_
  have hR2 := hR
  obtain ⟨A, c, rfl, hl, hc⟩ := Kd.R_reads hR
  refine ⟨A, c, he, hc, fun ad e2 => ?_, hb⟩
  obtain ⟨_, inner, hown, _⟩ := hR2
  rcases hown.2 with ⟨hv, _⟩ | ⟨g0, cap, cur, hv, hg0, _⟩
  · cases hv
  · cases hv
    cases e2
    exact hg0

set_option maxHeartbeats 4000000 in
set_option maxRecDepth 100000 in
theorem lives_walk (n8 h : Int) (A2 : Option Addr) (c2 : Nat) (l : List (List Int)) (A3 : Option Addr) (c3 : Nat) (q : List (List Int)) (w : World) (hi0 : (Lit.int .i64 n8).wf = true) (hi1 : (Lit.int .i64 h).wf = true)
    (hr2 : Kd.C (Kd.slice 5 (Kd.int .u8)) w A2 l.length l) (hc2 : l.length ≤ c2) (hB2 : ∀ m ∈ l, IsB m) (hr3 : Kd.C (Kd.slice 5 (Kd.int .u8)) w A3 q.length q) (hc3 : q.length ≤ c3) (hB3 : ∀ m ∈ q, IsB m) :
    Calls Try.prog 4 #[.int .i64 n8, .int .i64 h, .slice A2 l.length c2, .slice A3 q.length c3] w fun e w' => e = .returned (.bool true) ∧ Below w.heap.size w w' := by
  have HR2 := Aside0.mk hr2
  have HC2 := Aside0.mk hc2
  have HR3 := Aside0.mk hr3
  have HC3 := Aside0.mk hc3
  obtain ⟨r, hrl, hlong⟩ := long_calls A2 c2 l
  obtain ⟨r2, hrl2, hlong2⟩ := long_calls A3 c3 q
  have HLONG := Aside0.mk hlong
  have HLONG2 := Aside0.mk hlong2
  clear hr2 hc2 hB2 hr3 hc3 hB3 hlong hlong2 hi0 hi1
  cases r with
  | true =>
    go_enter Try.func4, Try.ntmps4
    go_wp2_with (first
      | ((with_reducible refine gate_callee (f := 12) rfl ?_); refine goesL_ (some 23) rfl rfl Try.func12 (by kernel_rfl) rfl #[] rfl (by (try simp only [List.map_toArray, List.map_cons, List.map_nil]); first | done | rfl | (simp only [List.length_drop, List.length_take]; rfl)) ?_; refine (alive_calls _).mono ?_; rintro e wa ⟨rfl, hb⟩; have HBA := Aside0.mk (HB1.out.trans (hb.mono HB1.out.size)); clear hb; refine ⟨_, rfl, ?_⟩)
      | ((with_reducible refine gate_callee (f := 11) rfl ?_); refine goesL_ (some 18) rfl rfl Try.func11 (by kernel_rfl) rfl #[.slice A2 l.length c2] rfl (by (try simp only [List.map_toArray, List.map_cons, List.map_nil]); first | done | rfl | (simp only [List.length_drop, List.length_take]; rfl)) ?_; refine (HLONG.out _ HR2.out HC2.out).mono ?_; rintro e w1 ⟨rfl, hb⟩; have HB1 := Aside0.mk hb; clear hb; refine ⟨_, rfl, ?_⟩))
    go_ret
    exact ⟨rfl, HBA.out⟩
  | false =>
  cases r2 with
  | true =>
    go_enter Try.func4, Try.ntmps4
    go_wp2_with (first
      | ((with_reducible refine gate_callee (f := 12) rfl ?_); refine goesL_ (some 23) rfl rfl Try.func12 (by kernel_rfl) rfl #[] rfl (by (try simp only [List.map_toArray, List.map_cons, List.map_nil]); first | done | rfl | (simp only [List.length_drop, List.length_take]; rfl)) ?_; refine (alive_calls _).mono ?_; rintro e wa ⟨rfl, hb⟩; have HBA := Aside0.mk (HB2.out.trans (hb.mono HB2.out.size)); clear hb; refine ⟨_, rfl, ?_⟩)
      | (go_at_call 11; refine (HLONG2.out _ (rows_below HR3.out HB1.out) HC3.out).mono ?_; rintro e w2 ⟨rfl, hb⟩; have HB2 := Aside0.mk (HB1.out.trans (hb.mono HB1.out.size)); clear hb)
      | ((with_reducible refine gate_callee (f := 11) rfl ?_); refine goesL_ (some 18) rfl rfl Try.func11 (by kernel_rfl) rfl #[.slice A2 l.length c2] rfl (by (try simp only [List.map_toArray, List.map_cons, List.map_nil]); first | done | rfl | (simp only [List.length_drop, List.length_take]; rfl)) ?_; refine (HLONG.out _ HR2.out HC2.out).mono ?_; rintro e w1 ⟨rfl, hb⟩; have HB1 := Aside0.mk hb; clear hb; refine ⟨_, rfl, ?_⟩))
    go_ret
    exact ⟨rfl, HBA.out⟩
  | false =>
  have HLL := Aside0.mk (hrl rfl)
  have HLQ := Aside0.mk (hrl2 rfl)
  clear hrl hrl2
  by_cases hk : okNew n8 h
  case neg =>
    have HK := Aside0.mk hk
    clear hk
    go_enter Try.func4, Try.ntmps4
    go_wp2_with (first
      | ((with_reducible refine gate_callee (f := 12) rfl ?_); refine goesL_ (some 48) rfl rfl Try.func12 (by kernel_rfl) rfl #[] rfl (by (try simp only [List.map_toArray, List.map_cons, List.map_nil]); first | done | rfl | (simp only [List.length_drop, List.length_take]; rfl)) ?_; refine (alive_calls _).mono ?_; rintro e wa ⟨rfl, hb⟩; have HBA := Aside0.mk (HB4.out.trans (hb.mono HB4.out.size)); clear hb; refine ⟨_, rfl, ?_⟩)
      | ((with_reducible refine gate_callee (f := 15) rfl ?_); refine goesL_ (some 33) rfl rfl Try.func15 (by kernel_rfl) rfl #[.int .i64 n8, .int .i64 h] rfl (by (try simp only [List.map_toArray, List.map_cons, List.map_nil]); first | done | rfl | (simp only [List.length_drop, List.length_take]; rfl)) ?_; refine (rnew_bad n8 h _ HK.out).mono ?_; rintro e w4 ⟨rfl, hd⟩; have HB4 := Aside0.mk (HB3.out.trans (hd.below.mono HB3.out.size)); clear hd; refine ⟨_, rfl, ?_⟩)
      | ((with_reducible refine gate_callee (f := 10) rfl ?_); refine goesL_ (some 27) rfl rfl Try.func10 (by kernel_rfl) rfl #[.int .i64 n8, .int .i64 h] rfl (by (try simp only [List.map_toArray, List.map_cons, List.map_nil]); first | done | rfl | (simp only [List.length_drop, List.length_take]; rfl)) ?_; refine (new_bad n8 h _ HK.out).mono ?_; rintro e w3 ⟨rfl, hd⟩; have HB3 := Aside0.mk (HB2.out.trans (hd.below.mono HB2.out.size)); clear hd; refine ⟨_, rfl, ?_⟩)
      | (go_at_call 11; refine (HLONG2.out _ (rows_below HR3.out HB1.out) HC3.out).mono ?_; rintro e w2 ⟨rfl, hb⟩; have HB2 := Aside0.mk (HB1.out.trans (hb.mono HB1.out.size)); clear hb)
      | ((with_reducible refine gate_callee (f := 11) rfl ?_); refine goesL_ (some 18) rfl rfl Try.func11 (by kernel_rfl) rfl #[.slice A2 l.length c2] rfl (by (try simp only [List.map_toArray, List.map_cons, List.map_nil]); first | done | rfl | (simp only [List.length_drop, List.length_take]; rfl)) ?_; refine (HLONG.out _ HR2.out HC2.out).mono ?_; rintro e w1 ⟨rfl, hb⟩; have HB1 := Aside0.mk hb; clear hb; refine ⟨_, rfl, ?_⟩))
    go_ret
    exact ⟨rfl, HBA.out⟩
  have HK := Aside0.mk hk
  have hn := hk
  obtain ⟨k1, k2, k3, k4, k5⟩ := hn
  obtain ⟨n, hn⟩ : ∃ n : Nat, (n8 / 8).toNat = n := ⟨_, rfl⟩
  have HN := Aside0.mk (show 1 ≤ n ∧ n ≤ 8192 by omega)
  have HH := Aside0.mk (show 1 ≤ h ∧ h ≤ 8 from ⟨k4, k5⟩)
  have HNE := Aside0.mk hn
  have hn8 : n8 = 8 * (n : Int) := by omega
  have hnew := fun W => new_made n8 h W HK.out
  rw [HNE.out] at hnew
  have hrnew := fun W => rnew_ok n h W HN.out.1 HN.out.2 k4 k5
  rw [← hn8, ← RD_zero n] at hrnew
  have HNEW := Aside0.mk hnew
  have HRNEW := Aside0.mk hrnew
  clear hk k1 k2 k3 k4 k5 hn hnew hrnew hn8
  go_enter Try.func4, Try.ntmps4
  go_wp2_with (first
    | ((with_reducible refine gate_callee (f := 15) rfl ?_); refine goesL_ (some 33) rfl rfl Try.func15 (by kernel_rfl) rfl #[.int .i64 n8, .int .i64 h] rfl (by (try simp only [List.map_toArray, List.map_cons, List.map_nil]); first | done | rfl | (simp only [List.length_drop, List.length_take]; rfl)) ?_; refine (HRNEW.out _).mono ?_; rintro e w4 ⟨rfl, hF, hb⟩; have HK4 := Aside0.mk (show LivesI w g b (w3.heap.size + 1) w3.heap.size n h l 0 w4 from ⟨HK3.out.below hb, hF, by have := HK3.out.fl.gt; omega, by have := HK3.out.fl.btlt; omega, by have := HK3.out.fl.btlt; omega, by omega, HK3.out.be.size⟩); clear hF hb; refine ⟨_, rfl, ?_⟩)
    | ((with_reducible refine gate_callee (f := 10) rfl ?_); refine goesL_ (some 27) rfl rfl Try.func10 (by kernel_rfl) rfl #[.int .i64 n8, .int .i64 h] rfl (by (try simp only [List.map_toArray, List.map_cons, List.map_nil]); first | done | rfl | (simp only [List.length_drop, List.length_take]; rfl)) ?_; refine (HNEW.out _).mono ?_; rintro e w3 ⟨g, b, rfl, hF, hb, hg1, hg2⟩; have HK3 := Aside0.mk (show KeysI w g b n h l 0 w3 from ⟨hF, HB2.out.trans (hb.mono HB2.out.size), Nat.le_trans HB2.out.size hg1, Nat.le_trans HB2.out.size hg2⟩); clear hF hb hg1 hg2; refine ⟨_, rfl, ?_⟩)
    | (go_at_call 11; refine (HLONG2.out _ (rows_below HR3.out HB1.out) HC3.out).mono ?_; rintro e w2 ⟨rfl, hb⟩; have HB2 := Aside0.mk (HB1.out.trans (hb.mono HB1.out.size)); clear hb)
    | ((with_reducible refine gate_callee (f := 11) rfl ?_); refine goesL_ (some 18) rfl rfl Try.func11 (by kernel_rfl) rfl #[.slice A2 l.length c2] rfl (by (try simp only [List.map_toArray, List.map_cons, List.map_nil]); first | done | rfl | (simp only [List.length_drop, List.length_take]; rfl)) ?_; refine (HLONG.out _ HR2.out HC2.out).mono ?_; rintro e w1 ⟨rfl, hb⟩; have HB1 := Aside0.mk hb; clear hb; refine ⟨_, rfl, ?_⟩))
  obtain ⟨rd, hrd⟩ : ∃ rd, w3.heap.size = rd := ⟨_, rfl⟩
  rw [hrd] at HK4 ⊢
  obtain ⟨rg, hrg⟩ : ∃ rg, rd + 1 = rg := ⟨_, rfl⟩
  rw [hrg] at HK4 ⊢
  clear hrd hrg
  go_loopg [13] (l.length) (fun kq v13 w' => ∃ i : Nat, v13 = .int .i64 i ∧ Aside0 (i ≤ l.length ∧ kq = l.length - i) ∧ Aside0 (LivesI w g b rg rd n h l i w'))
  case atStart => exact ⟨0, rfl, ⟨Nat.zero_le _, rfl⟩, HK4⟩
  case round =>
    obtain ⟨i, rfl, hik, HI⟩ := hrel
    by_cases hlt : i < l.length
    · obtain ⟨ad, A, c, key, eA, hkey, hcell0, hlc, hck⟩ := key_at HR2.out hlt
      cases eA
      have hcell := cell_below2 hcell0 HI.out.k1.be
      have d1 : decide ((i : Int) < (l.length : Int)) = true := decide_eq_true (by omega)
      have d1b : decide (i < l.length) = true := decide_eq_true hlt
      have i1 : (0 ≤ (i : Int)) = True := eq_true (by omega)
      have i2 : ((i : Int) < (l.length : Int)) = True := eq_true (by omega)
      have i3 : (i < l.length) = True := eq_true hlt
      have hwr : wrap64 ((i : Int) + 1) = ((i + 1 : Nat) : Int) := by have := HLL.out.1; unfold wrap64; omega
      have hkl : key.length ≤ 300 := by rw [← hkey, List.getD_eq_getElem?_getD, List.getElem?_eq_getElem hlt]; exact HLL.out.2 _ (List.getElem_mem hlt)
      have HKL := Aside0.mk hkl
      have HLT := Aside0.mk hlt
      have HCK := Aside0.mk hck
      have HLC := Aside0.mk hlc
      have HKEY := Aside0.mk hkey
      have HCELL := Aside0.mk hcell0
      clear hlt hck hlc hkey hkl hcell0
      go_wp2_with (first
        | ((with_reducible refine gate_callee (f := 16) rfl ?_); refine goesL_ (some 67) rfl rfl Try.func16 (by kernel_rfl) rfl #[ptr rg, .slice A key.length c] rfl (by (try simp only [List.map_toArray, List.map_cons, List.map_nil]); first | done | rfl | (simp only [List.length_drop, List.length_take]; rfl)) ?_; refine (radd_calls rg rd n h (bitsAt n h l i) A c key _ HX5.out HH.out.1 HH.out.2 HN.out.1 HN.out.2 (bitsAt_length n h l i) (Kd.C_below HCK.out HK5.out.be) HLC.out (by have := HKL.out; omega) (row_far HCK.out HI.out.d5)).mono ?_; rintro e w6 ⟨⟨v6, rfl⟩, hF6, hg6⟩; have HK6 := Aside0.mk (show LivesI w g b rg rd n h l (i + 1) w6 from ⟨HK5.out.far2 hg6 HI.out.d1 HI.out.d2 HI.out.d5, by rw [bitsAt_succ n h l HLT.out, HKEY.out]; exact hF6, HI.out.d1, HI.out.d2, HI.out.d3, HI.out.d4, HI.out.d5⟩); clear hF6 hg6; refine ⟨_, rfl, ?_⟩)
        | ((with_reducible refine gate_callee (f := 13) rfl ?_); refine goesL_ (some 60) rfl rfl Try.func13 (by kernel_rfl) rfl #[ptr g, .slice A key.length c] rfl (by (try simp only [List.map_toArray, List.map_cons, List.map_nil]); first | done | rfl | (simp only [List.length_drop, List.length_take]; rfl)) ?_; refine (keys_add2 HI.out.k1 HH.out.1 HH.out.2 HN.out.1 HN.out.2 HLT.out HKEY.out (Kd.C_below HCK.out HI.out.k1.be) HLC.out).mono ?_; rintro e w5 ⟨rfl, hk5, hg5⟩; have HK5 := Aside0.mk hk5; have HX5 := Aside0.mk (HI.out.k2.grown hg5 HI.out.d3 (fun e => HI.out.d2 e.symm)); have hcell5 := cell_below2 HCELL.out hk5.be; clear hk5 hg5; refine ⟨_, rfl, ?_⟩))
      go_roundg (l.length - (i + 1))
      case measure => have := hik.out.2; have := HLT.out; omega
      case rel => exact ⟨i + 1, by rw [hwr], ⟨HLT.out, rfl⟩, HK6⟩
    · have d1 : decide ((i : Int) < (l.length : Int)) = false := decide_eq_false (by omega)
      have d1b : decide (i < l.length) = false := decide_eq_false hlt
      have hlast : i = l.length := by have := hik.out.1; omega
      have hK0 := HI.out
      rw [hlast] at hK0
      have HK5 := Aside0.mk hK0
      clear hlt hlast hK0
      obtain ⟨Z, hZ⟩ : ∃ Z, bitsAt n h l l.length = Z := ⟨_, rfl⟩
      have hZl : Z.length = n := by rw [← hZ]; exact bitsAt_length n h l _
      have HZL := Aside0.mk hZl
      have HZB := Aside0.mk (show IsB Z by rw [← hZ]; exact bitsAt_bytes n h l _)
      have hf1 := HK5.out.k1.fl
      have hf2 := HK5.out.k2
      rw [hZ] at hf1 hf2
      have HF5 := Aside0.mk hf1
      have HX5 := Aside0.mk hf2
      have HB5 := Aside0.mk HK5.out.k1.be
      have HDG := Aside0.mk HK5.out.d4
      have HRG := Aside0.mk (show w.heap.size ≤ rg from by have h1_ := HK5.out.d4; have h2_ := HK5.out.d5; omega)
      clear hZ hZl hf1 hf2
      go_wp2
      clear d1 d1b
      go_loopg [14] (q.length) (fun kq v14 w' => ∃ i : Nat, v14 = .int .i64 i ∧ Aside0 (i ≤ q.length ∧ kq = q.length - i) ∧ Aside0 (Flt w' g b h Z ∧ RFlt w' rg rd h (RD n Z) ∧ Below w.heap.size w w'))
      case atStart => exact ⟨0, rfl, ⟨Nat.zero_le _, rfl⟩, ⟨HF5.out, HX5.out, HB5.out⟩⟩
      case round =>
        obtain ⟨j, rfl, hjk, HJ⟩ := hrel
        by_cases hlt : j < q.length
        · obtain ⟨ad, A, c, key, eA, hkey, hcell0, hlc, hck⟩ := key_at HR3.out hlt
          cases eA
          have d1 : decide ((j : Int) < (q.length : Int)) = true := decide_eq_true (by omega)
          have d1b : decide (j < q.length) = true := decide_eq_true hlt
          have i1 : (0 ≤ (j : Int)) = True := eq_true (by omega)
          have i2 : ((j : Int) < (q.length : Int)) = True := eq_true (by omega)
          have i3 : (j < q.length) = True := eq_true hlt
          have hwr : wrap64 ((j : Int) + 1) = ((j + 1 : Nat) : Int) := by have := HLQ.out.1; unfold wrap64; omega
          have hkl : key.length ≤ 300 := by rw [← hkey, List.getD_eq_getElem?_getD, List.getElem?_eq_getElem hlt]; exact HLQ.out.2 _ (List.getElem_mem hlt)
          obtain ⟨vb, hvb⟩ : ∃ vb, mayS Z (plcK n h key) = vb := ⟨_, rfl⟩
          have m1 : ∀ W, Flt W g b h Z → Kd.C (Kd.int .u8) W A key.length key → Calls Try.prog 14 #[ptr g, .slice A key.length c] W fun e w' => e = .returned (.bool vb) ∧ Below W.heap.size W w' := fun W hF hC => by
            have h_ := may_calls g b h Z A c key W hF HH.out.1 (by have := HH.out.2; omega) (by rw [HZL.out]; exact HN.out.1) (by rw [HZL.out]; exact HN.out.2) HZB.out hC hlc
            rw [HZL.out, hvb] at h_; exact h_
          have m2 : ∀ W, RFlt W rg rd h (RD n Z) → Kd.C (Kd.int .u8) W A key.length key → Calls Try.prog 17 #[ptr rg, .slice A key.length c] W fun e w' => e = .returned (.bool vb) ∧ Below W.heap.size W w' := fun W hF hC => by
            have h_ := rmay_calls rg rd n h Z A c key W hF HH.out.1 HH.out.2 HN.out.1 HN.out.2 HZL.out hC hlc (by omega)
            rw [hvb] at h_; exact h_
          have M1 := Aside0.mk m1
          have M2 := Aside0.mk m2
          have HLT := Aside0.mk hlt
          have HCK := Aside0.mk hck
          have hj3 := HJ.out.2.2
          have hcd : wr.drew.cell? (ad.add j) = some (.slice A key.length c) := cell_below2 hcell0 hj3.drew
          have HCD := Aside0.mk hcd
          have HFD := Aside0.mk (show Flt wr.drew g b h Z from HJ.out.1.below (Below.refl _ _).drew)
          have HXD := Aside0.mk (show RFlt wr.drew rg rd h (RD n Z) from HJ.out.2.1.below (Below.refl _ _).drew)
          have HBD := Aside0.mk (show Below w.heap.size w wr.drew from hj3.drew)
          clear hlt hck hlc hkey hkl hcell0 m1 m2 hvb hj3 hcd
          go_wp2
          go_region_held3 (fun W' => W'.cell? (ad.add j) = some (.slice A key.length c)) (first | (with_reducible exact HC8.out) | (with_reducible exact HC7.out) | (with_reducible exact HCD.out))
            (first
              | (go_at_call 17; refine (M2.out _ HX7.out (Kd.C_below HCK.out HB7.out)).mono ?_; rintro e w8 ⟨rfl, hb⟩; have HF8 := Aside0.mk (HF7.out.below hb); have HX8 := Aside0.mk (HX7.out.below hb); have HB8 := Aside0.mk (HB7.out.trans (hb.mono HB7.out.size)); have HC8 := Aside0.mk (cell_below2 HC7.out hb); clear hb)
              | (go_at_call 14; refine (M1.out _ HFD.out (Kd.C_below HCK.out HBD.out)).mono ?_; rintro e w7 ⟨rfl, hb⟩; have HF7 := Aside0.mk (HFD.out.below hb); have HX7 := Aside0.mk (HXD.out.below hb); have HB7 := Aside0.mk (HBD.out.trans (hb.mono HBD.out.size)); have HC7 := Aside0.mk (cell_below2 HCD.out hb); clear hb))
          all_goals
            go_wp2
            go_roundg (q.length - (j + 1))
            case measure => have := hjk.out.2; have := HLT.out; omega
            case rel => exact ⟨j + 1, by rw [hwr], ⟨HLT.out, rfl⟩, ⟨HF8.out, HX8.out, HB8.out⟩⟩
        · have d1 : decide ((j : Int) < (q.length : Int)) = false := decide_eq_false (by omega)
          have d1b : decide (j < q.length) = false := decide_eq_false hlt
          clear hlt
          obtain ⟨X, hX⟩ : ∃ X, h :: Z = X := ⟨_, rfl⟩
          have hwr := fun W (hF : Flt W g b h Z) => write_read2 g b h Z W hF HH.out.1 (by have := HH.out.2; omega) (by rw [HZL.out]; exact HN.out.2)
          have hrw := fun W (hF : RFlt W rg rd h (RD n Z)) => rwrite_calls rg rd n h Z W hF HDG.out HN.out.2 HZL.out HZB.out HH.out.1 HH.out.2
          rw [hX] at hwr hrw
          have WR := Aside0.mk hwr
          have RW := Aside0.mk hrw
          have HJ0 := Aside0.mk HJ.out.1
          have HJ1 := Aside0.mk HJ.out.2.1
          have HJ2 := Aside0.mk HJ.out.2.2
          clear hX hwr hrw
          go_wp2_with (first
            | ((with_reducible refine gate_callee (f := 18) rfl ?_); refine goesL_ (some 89) rfl rfl Try.func18 (by kernel_rfl) rfl #[ptr g] rfl (by (try simp only [List.map_toArray, List.map_cons, List.map_nil]); first | done | rfl | (simp only [List.length_drop, List.length_take]; rfl)) ?_; refine (WR.out _ HJ0.out).mono ?_; rintro e w7 ⟨A9, c9, rfl, hC, hA, hb⟩; have HB7 := Aside0.mk (HJ2.out.trans (hb.mono HJ2.out.size)); have HX7 := Aside0.mk (HJ1.out.below hb); have HC7 := Aside0.mk hC; have HA7 := Aside0.mk (show ∀ ad, A9 = some ad → 0 < X.length → ad.block ≠ rg from fun ad e _ => by have h1_ := hA ad e; have h2_ := HJ1.out.gt; omega); clear hC hA hb; refine ⟨_, rfl, ?_⟩))
          have HX7d := Aside0.mk (show RFlt w7.drew rg rd h (RD n Z) from HX7.out.below (Below.refl _ _).drew)
          have HB7d := Aside0.mk (show Below w.heap.size w w7.drew from HB7.out.drew)
          have HC7d := Aside0.mk (show Kd.C (Kd.int .u8) w7.drew A9 X.length X from Kd.C_below HC7.out (Below.refl _ _).drew)
          refine wp_region_any (by kernel_rfl) ?_; change wpAny _ _ _ _ _ _ _ (World.drew _); refine wpAny_ready (rs := [0]) (by kernel_rfl) (by simp) ?_; refine AllReady.cons rfl (fun K hK => ?_) ?_; rotate_left 1; focus exact AllReady.nil
          (go_simp; refine (alive_calls _).mono ?_; rintro e w8 ⟨rfl, hb⟩; have HB8 := Aside0.mk (HB7d.out.trans (hb.mono HB7d.out.size)); have HX8 := Aside0.mk (HX7d.out.below hb); have HC8 := Aside0.mk (Kd.C_below HC7d.out hb); have hs1a := str_of (c := c9) HC8.out; clear hb; refine hK _ _ ?_; clear hK K)
          (refine wpAny_take (i := 1) (v := ?_) rfl (by kernel_rfl) (by kernel_rfl) (by kernel_rfl) (fun _ _ _ h => h) (Or.inl ⟨by rfl, ?_⟩) ?_; rotate_left 1; focus (intro ww; go_simp; try with_reducible rfl))
          (refine wpAny_take (i := 2) (v := ?_) rfl (by kernel_rfl) (by kernel_rfl) (by kernel_rfl) (fun _ _ _ h => h) (Or.inl ⟨by rfl, ?_⟩) ?_; rotate_left 1; focus (intro ww; go_simp; try with_reducible rfl))
          (refine wpAny_take (i := 3) (v := ?_) rfl (by kernel_rfl) (by kernel_rfl) (by kernel_rfl) (fun _ _ _ h => h) (Or.inl ⟨by rfl, ?_⟩) ?_; rotate_left 1; focus (intro ww; go_simp; try with_reducible rfl))
          (refine wpAny_take (i := 4) (v := ?_) rfl (by kernel_rfl) (by kernel_rfl) (by kernel_rfl) (fun _ _ _ h => h) (Or.inl ⟨by rfl, ?_⟩) ?_; rotate_left 1; focus (intro ww; go_simp; try with_reducible rfl))
          (refine wpAny_take (i := 5) (v := ?_) rfl (by kernel_rfl) (by kernel_rfl) (by kernel_rfl) (fun _ _ _ h => h) (Or.inl ⟨by rfl, ?_⟩) ?_; rotate_left 1; focus (intro ww; go_simp; try with_reducible rfl))
          (refine wpAny_take (i := 6) (v := ?_) rfl (by kernel_rfl) (by kernel_rfl) (by kernel_rfl) (fun _ _ _ h => h) (Or.inl ⟨by rfl, ?_⟩) ?_; rotate_left 1; focus (intro ww; go_simp; try with_reducible rfl))
          (refine wpAny_take (i := 8) (v := ?_) rfl (by kernel_rfl) (by kernel_rfl) (by kernel_rfl) (fun _ _ _ h => h) (Or.inl ⟨by rfl, ?_⟩) ?_; rotate_left 1; focus (intro ww; go_simp; try with_reducible rfl))
          refine wpAny_ready (rs := [7, 9]) (by kernel_rfl) (by simp) ?_
          refine AllReady.cons rfl (fun K hK => ?_) ?_;
          · (go_simp; refine hK _ _ ?_; clear hK K)
            refine wpAny_ready (rs := [9]) (by kernel_rfl) (by simp) ?_; refine AllReady.cons rfl (fun K hK => ?_) ?_; rotate_left 1; focus exact AllReady.nil
            (go_simp; refine (RW.out _ HX8.out).mono ?_; rintro e w9 ⟨Ar, cr, rfl, hC, hgr⟩; have hs1b := str_of (c := c9) (Kd.C_keep (0 : Int) HC8.out (show KeepBut w8 w9 rg none from ⟨hgr.size, fun i hi hne _ => hgr.block i hi (by simpa using hne)⟩) HA7.out); have hs2b := str_of (c := cr) hC; have HE9 := Aside0.mk (HB8.out.grown hgr HB8.out.size (fun k hk => by cases hk; exact HRG.out)); clear hC hgr; refine hK _ _ ?_; clear hK K)
            refine wpAny_ready (rs := [10]) (by kernel_rfl) (by simp) ?_; refine AllReady.cons rfl (fun K hK => ?_) ?_; rotate_left 1; focus exact AllReady.nil
            (go_simp; refine hK _ _ ?_; clear hK K)
            (refine wpAny_take (i := 11) (v := ?_) rfl (by kernel_rfl) (by kernel_rfl) (by kernel_rfl) (fun _ _ _ h => h) (Or.inl ⟨by rfl, ?_⟩) ?_; rotate_left 1; focus (intro ww; go_simp; try with_reducible rfl)); (refine wpAny_take (i := 12) (v := ?_) rfl (by kernel_rfl) (by kernel_rfl) (by kernel_rfl) (fun _ _ _ h => h) (Or.inl ⟨by rfl, ?_⟩) ?_; rotate_left 1; focus (intro ww; go_simp; try with_reducible rfl)); (refine wpAny_take (i := 13) (v := ?_) rfl (by kernel_rfl) (by kernel_rfl) (by kernel_rfl) (fun _ _ _ h => h) (Or.inl ⟨by rfl, ?_⟩) ?_; rotate_left 1; focus (intro ww; go_simp; try with_reducible rfl))
            refine wpAny_done (by kernel_rfl) ?_ _; go_wp2; go_ret; exact ⟨by first | rfl | simp, HE9.out⟩
          · refine AllReady.cons rfl (fun K hK => ?_) ?_; rotate_left 1; focus exact AllReady.nil
            (go_simp; refine (RW.out _ HX8.out).mono ?_; rintro e w9 ⟨Ar, cr, rfl, hC, hgr⟩; have hs1b := str_of (c := c9) (Kd.C_keep (0 : Int) HC8.out (show KeepBut w8 w9 rg none from ⟨hgr.size, fun i hi hne _ => hgr.block i hi (by simpa using hne)⟩) HA7.out); have hs2b := str_of (c := cr) hC; have HE9 := Aside0.mk (HB8.out.grown hgr HB8.out.size (fun k hk => by cases hk; exact HRG.out)); clear hC hgr; refine hK _ _ ?_; clear hK K)
            refine wpAny_ready (rs := [7, 10]) (by kernel_rfl) (by simp) ?_
            refine AllReady.cons rfl (fun K hK => ?_) ?_;
            · (go_simp; refine hK _ _ ?_; clear hK K)
              refine wpAny_ready (rs := [10]) (by kernel_rfl) (by simp) ?_; refine AllReady.cons rfl (fun K hK => ?_) ?_; rotate_left 1; focus exact AllReady.nil
              (go_simp; refine hK _ _ ?_; clear hK K)
              (refine wpAny_take (i := 11) (v := ?_) rfl (by kernel_rfl) (by kernel_rfl) (by kernel_rfl) (fun _ _ _ h => h) (Or.inl ⟨by rfl, ?_⟩) ?_; rotate_left 1; focus (intro ww; go_simp; try with_reducible rfl)); (refine wpAny_take (i := 12) (v := ?_) rfl (by kernel_rfl) (by kernel_rfl) (by kernel_rfl) (fun _ _ _ h => h) (Or.inl ⟨by rfl, ?_⟩) ?_; rotate_left 1; focus (intro ww; go_simp; try with_reducible rfl)); (refine wpAny_take (i := 13) (v := ?_) rfl (by kernel_rfl) (by kernel_rfl) (by kernel_rfl) (fun _ _ _ h => h) (Or.inl ⟨by rfl, ?_⟩) ?_; rotate_left 1; focus (intro ww; go_simp; try with_reducible rfl))
              refine wpAny_done (by kernel_rfl) ?_ _; go_wp2; go_ret; exact ⟨by first | rfl | simp, HE9.out⟩
            · refine AllReady.cons rfl (fun K hK => ?_) ?_; rotate_left 1; focus exact AllReady.nil
              (go_simp; refine hK _ _ ?_; clear hK K)
              refine wpAny_ready (rs := [7]) (by kernel_rfl) (by simp) ?_; refine AllReady.cons rfl (fun K hK => ?_) ?_; rotate_left 1; focus exact AllReady.nil
              (go_simp; refine hK _ _ ?_; clear hK K)
              (refine wpAny_take (i := 11) (v := ?_) rfl (by kernel_rfl) (by kernel_rfl) (by kernel_rfl) (fun _ _ _ h => h) (Or.inl ⟨by rfl, ?_⟩) ?_; rotate_left 1; focus (intro ww; go_simp; try with_reducible rfl)); (refine wpAny_take (i := 12) (v := ?_) rfl (by kernel_rfl) (by kernel_rfl) (by kernel_rfl) (fun _ _ _ h => h) (Or.inl ⟨by rfl, ?_⟩) ?_; rotate_left 1; focus (intro ww; go_simp; try with_reducible rfl)); (refine wpAny_take (i := 13) (v := ?_) rfl (by kernel_rfl) (by kernel_rfl) (by kernel_rfl) (fun _ _ _ h => h) (Or.inl ⟨by rfl, ?_⟩) ?_; rotate_left 1; focus (intro ww; go_simp; try with_reducible rfl))
              refine wpAny_done (by kernel_rfl) ?_ _; go_wp2; go_ret; exact ⟨by first | rfl | simp, HE9.out⟩

end Go.Proofs.Ytliafeandefocaa.P
