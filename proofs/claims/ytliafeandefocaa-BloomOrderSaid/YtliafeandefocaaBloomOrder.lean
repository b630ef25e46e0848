/- BloomOrder's walk. No conditions. -/
import Derived.Test.YtliafeandefocaaBloomS
namespace Go.Proofs.Ytliafeandefocaa.P
open Go.RowKit Go.Proofs.YtliafeandefocaaW.PrintWords Go.Proofs.YtliafeandefocaaW.PrintLast Go.Proofs.YtliafeandefocaaW.PrintMore
set_option linter.unusedVariables false
set_option linter.unusedSimpArgs false

/-- Two filters, the keys of the second from the last one on. -/
structure OrdI (w : World) (g b g2 b2 n : Nat) (h : Int) (l : List (List Int)) (i : Nat) (W : World) : Prop where
  k1 : KeysI w g b n h l i W
  k2 : KeysI w g2 b2 n h l.reverse i W
  d1 : g ≠ b2
  d2 : b ≠ b2
  d3 : g2 ≠ b
theorem OrdI.below {w A C : World} {g b g2 b2 n : Nat} {h : Int} {l : List (List Int)} {i : Nat} (H : OrdI w g b g2 b2 n h l i A) (hb : Below A.heap.size A C) : OrdI w g b g2 b2 n h l i C := ⟨H.k1.below hb, H.k2.below hb, H.d1, H.d2, H.d3⟩
theorem KeysI.far {w A C : World} {g b n : Nat} {h : Int} {l : List (List Int)} {i k : Nat} (H : KeysI w g b n h l i A) (hg : A.grownBy C (some k)) (h1 : g ≠ k) (h2 : b ≠ k) (h3 : w.heap.size ≤ k) : KeysI w g b n h l i C :=
  ⟨H.fl.grown hg h1 h2, H.be.grown hg H.be.size (fun q hq => by cases hq; exact h3), H.gl, H.bl⟩
theorem keys_add_grown {w W : World} {g b n : Nat} {h : Int} {l : List (List Int)} {i : Nat} (H : KeysI w g b n h l i W) (h1 : 1 ≤ h) (h2 : h ≤ 8) (n1 : 1 ≤ n) (n2 : n ≤ 8192) (hi : i < l.length) {A : Option Addr} {c : Nat} {key : List Int} (hkey : l.getD i [] = key)
    (hr : Kd.C (Kd.int .u8) W A key.length key) (hc : key.length ≤ c) :
    Calls Try.prog 13 #[ptr g, .slice A key.length c] W fun e w' => e = .returned (.int .i64 0) ∧ KeysI w g b n h l (i + 1) w' ∧ W.grownBy w' (some b) := by
  subst hkey
  refine (add_calls g b h _ A c _ W H.fl h1 (by omega) (by rw [bitsAt_length]; exact n1) (by rw [bitsAt_length]; exact n2) (bitsAt_bytes n h l i) hr hc).mono fun e w' ⟨a1, a2, a3⟩ => ⟨a1, ?_, a3⟩
  rw [bitsAt_length] at a2
  exact H.next hi a2 a3
theorem getD_rev (l : List (List Int)) {i : Nat} (hi : i < l.length) : l.reverse.getD i [] = l.getD (l.length - 1 - i) [] := by
  rw [List.getD_eq_getElem?_getD, List.getD_eq_getElem?_getD, List.getElem?_reverse hi]
theorem bitsAt_rev (n : Nat) (hn : 1 ≤ n) (h : Int) (l : List (List Int)) : bitsAt n h l.reverse l.length = bitsAt n h l l.length := by
  have e : l.length = l.reverse.length := List.length_reverse.symm
  rw [show bitsAt n h l.reverse l.length = bitsAt n h l.reverse l.reverse.length by rw [← e], bitsAt_all, bitsAt_all, List.map_reverse]
  refine addAll_rev (n := n) _ _ (by simp) (zeros_bytes n) ?_
  intro ps hps
  obtain ⟨k, _, rfl⟩ := List.mem_map.1 hps
  exact plcK_fits n hn h k

theorem cell_below {w C : World} {a : Addr} {v : Value} (h : w.cell? a = some v) (hb : Below w.heap.size w C) : C.cell? a = some v := (World.cell?_of_block (hb.block _ (block_of_cell h))).trans h

set_option maxHeartbeats 2000000 in
set_option maxRecDepth 100000 in
theorem order_walk (n8 h : Int) (A2 : Option Addr) (c2 : Nat) (l : List (List Int)) (tw : Int) (w : World) (hi0 : (Lit.int .i64 n8).wf = true) (hi1 : (Lit.int .i64 h).wf = true)
    (hr2 : Kd.C (Kd.slice 5 (Kd.int .u8)) w A2 l.length l) (hc2 : l.length ≤ c2) (hB2 : ∀ m ∈ l, IsB m) (hi3 : (Lit.int .i64 tw).wf = true) :
    Calls Try.prog 6 #[.int .i64 n8, .int .i64 h, .slice A2 l.length c2, .int .i64 tw] w fun e w' => e = .returned (.bool true) ∧ Below w.heap.size w w' := by
  have HR2 := Aside0.mk hr2
  have HC2 := Aside0.mk hc2
  obtain ⟨r, hrl, hlong⟩ := long_calls A2 c2 l
  have HLONG := Aside0.mk hlong
  clear hr2 hc2 hB2 hlong hi0 hi1 hi3
  by_cases hk : okNew n8 h
  case neg =>
    have HK := Aside0.mk hk
    clear hk
    go_enter Try.func6, Try.ntmps6
    go_wp2_with (first
      | ((with_reducible refine gate_callee (f := 12) rfl ?_); refine goesL_ (some 40) rfl rfl Try.func12 (by kernel_rfl) rfl #[] rfl (by (try simp only [List.map_toArray, List.map_cons, List.map_nil]); first | done | rfl | (simp only [List.length_drop, List.length_take]; rfl)) ?_; refine (alive_calls _).mono ?_; rintro e wa ⟨rfl, hb⟩; have HBA := Aside0.mk hb; clear hb; refine ⟨_, rfl, ?_⟩)
      | ((with_reducible refine gate_callee (f := 10) rfl ?_); refine goesL_ (some 27) rfl rfl Try.func10 (by kernel_rfl) rfl #[.int .i64 n8, .int .i64 h] rfl (by (try simp only [List.map_toArray, List.map_cons, List.map_nil]); first | done | rfl | (simp only [List.length_drop, List.length_take]; rfl)) ?_; refine (new_bad n8 h _ HK.out).mono ?_; rintro e w2 ⟨rfl, hd⟩; have HB2 := Aside0.mk (HB1.out.trans (hd.below.mono HB1.out.size)); clear hd; refine ⟨_, rfl, ?_⟩)
      | ((with_reducible refine gate_callee (f := 10) rfl ?_); refine goesL_ (some 21) rfl rfl Try.func10 (by kernel_rfl) rfl #[.int .i64 n8, .int .i64 h] rfl (by (try simp only [List.map_toArray, List.map_cons, List.map_nil]); first | done | rfl | (simp only [List.length_drop, List.length_take]; rfl)) ?_; refine (new_bad n8 h _ HK.out).mono ?_; rintro e w1 ⟨rfl, hd⟩; have HB1 := Aside0.mk hd.below; clear hd; refine ⟨_, rfl, ?_⟩))
    go_ret
    exact ⟨rfl, HB2.out.trans (HBA.out.mono HB2.out.size)⟩
  have HK := Aside0.mk hk
  have hn := hk
  obtain ⟨k1, k2, k3, k4, k5⟩ := hn
  obtain ⟨n, hn⟩ : ∃ n : Nat, (n8 / 8).toNat = n := ⟨_, rfl⟩
  have HN := Aside0.mk (show 1 ≤ n ∧ n ≤ 8192 by omega)
  have HH := Aside0.mk (show 1 ≤ h ∧ h ≤ 8 from ⟨k4, k5⟩)
  have HNE := Aside0.mk hn
  have hdiv : Int.tdiv n8 8 = (n : Int) := by rw [Int.tdiv_eq_ediv_of_nonneg (by omega)]; omega
  have HDIV := Aside0.mk hdiv
  clear hk k1 k2 k3 k4 k5 hn hdiv
  have hnew := fun W => new_made n8 h W HK.out
  rw [HNE.out] at hnew
  have HNEW := Aside0.mk hnew
  clear hnew
  cases r with
  | true =>
    go_enter Try.func6, Try.ntmps6
    go_wp2_with (first
      | ((with_reducible refine gate_callee (f := 12) rfl ?_); refine goesL_ (some 40) rfl rfl Try.func12 (by kernel_rfl) rfl #[] rfl (by (try simp only [List.map_toArray, List.map_cons, List.map_nil]); first | done | rfl | (simp only [List.length_drop, List.length_take]; rfl)) ?_; refine (alive_calls _).mono ?_; rintro e wa ⟨rfl, hb⟩; have HBA := Aside0.mk hb; clear hb; refine ⟨_, rfl, ?_⟩)
      | (go_at_call 11; refine (HLONG.out _ (rows_below HR2.out HB2.out) HC2.out).mono ?_; rintro e w3 ⟨rfl, hb⟩; have HB3 := Aside0.mk (HB2.out.trans (hb.mono HB2.out.size)); clear hb)
      | ((with_reducible refine gate_callee (f := 10) rfl ?_); refine goesL_ (some 27) rfl rfl Try.func10 (by kernel_rfl) rfl #[.int .i64 n8, .int .i64 h] rfl (by (try simp only [List.map_toArray, List.map_cons, List.map_nil]); first | done | rfl | (simp only [List.length_drop, List.length_take]; rfl)) ?_; refine (HNEW.out _).mono ?_; rintro e w2 ⟨g2, b2, rfl, hF, hb, hg1, hg2⟩; have HB2 := Aside0.mk (HB1.out.trans (hb.mono HB1.out.size)); clear hF hb hg1 hg2; refine ⟨_, rfl, ?_⟩)
      | ((with_reducible refine gate_callee (f := 10) rfl ?_); refine goesL_ (some 21) rfl rfl Try.func10 (by kernel_rfl) rfl #[.int .i64 n8, .int .i64 h] rfl (by (try simp only [List.map_toArray, List.map_cons, List.map_nil]); first | done | rfl | (simp only [List.length_drop, List.length_take]; rfl)) ?_; refine (HNEW.out _).mono ?_; rintro e w1 ⟨g, b, rfl, hF, hb, hg1, hg2⟩; have HB1 := Aside0.mk hb; clear hF hb hg1 hg2; refine ⟨_, rfl, ?_⟩))
    go_ret
    exact ⟨rfl, HB3.out.trans (HBA.out.mono HB3.out.size)⟩
  | false =>
    have HLL := Aside0.mk (hrl rfl).1
    clear hrl
    go_enter Try.func6, Try.ntmps6
    go_wp2_with (first
      | (go_at_call 11; refine (HLONG.out _ (rows_below HR2.out HK2.out.k1.be) HC2.out).mono ?_; rintro e w3 ⟨rfl, hb⟩; have HK3 := Aside0.mk (HK2.out.below hb); clear hb)
      | ((with_reducible refine gate_callee (f := 10) rfl ?_); refine goesL_ (some 27) rfl rfl Try.func10 (by kernel_rfl) rfl #[.int .i64 n8, .int .i64 h] rfl (by (try simp only [List.map_toArray, List.map_cons, List.map_nil]); first | done | rfl | (simp only [List.length_drop, List.length_take]; rfl)) ?_; refine (HNEW.out _).mono ?_; rintro e w2 ⟨g2, b2, rfl, hF, hb, hg1, hg2⟩; have HK2 := Aside0.mk (show OrdI w g b g2 b2 n h l 0 w2 from ⟨HK1.out.below hb, ⟨hF, HK1.out.be.trans (hb.mono HK1.out.be.size), Nat.le_trans HK1.out.be.size hg1, Nat.le_trans HK1.out.be.size hg2⟩, by have := HK1.out.fl.gt; omega, by have := HK1.out.fl.btlt; omega, by have := HK1.out.fl.btlt; omega⟩); clear hF hb hg1 hg2; refine ⟨_, rfl, ?_⟩)
      | ((with_reducible refine gate_callee (f := 10) rfl ?_); refine goesL_ (some 21) rfl rfl Try.func10 (by kernel_rfl) rfl #[.int .i64 n8, .int .i64 h] rfl (by (try simp only [List.map_toArray, List.map_cons, List.map_nil]); first | done | rfl | (simp only [List.length_drop, List.length_take]; rfl)) ?_; refine (HNEW.out _).mono ?_; rintro e w1 ⟨g, b, rfl, hF, hb, hg1, hg2⟩; have HK1 := Aside0.mk (show KeysI w g b n h l 0 w1 from ⟨hF, hb, hg1, hg2⟩); clear hF hb hg1 hg2; refine ⟨_, rfl, ?_⟩))
    go_loopg [13] (l.length) (fun kq v13 w' => ∃ i : Nat, v13 = .int .i64 i ∧ Aside0 (i ≤ l.length ∧ kq = l.length - i) ∧ Aside0 (OrdI w g b g2 b2 n h l i w'))
    case atStart => exact ⟨0, rfl, ⟨Nat.zero_le _, rfl⟩, HK3⟩
    case round =>
      obtain ⟨i, rfl, hik, HKI⟩ := hrel
      by_cases hlt : i < l.length
      · obtain ⟨ad, A, c, key, eA, hkey, hcell0, hlc, hck⟩ := key_at HR2.out hlt
        cases eA
        obtain ⟨ad', A', c', key', eA', hkey', hcell', hlc', hck'⟩ := key_at (i := l.length - 1 - i) HR2.out (by omega)
        cases eA'
        have hcell := cell_below hcell0 HKI.out.k1.be
        have hkr : l.reverse.getD i [] = key' := (getD_rev l hlt).trans hkey'
        obtain ⟨q, hq⟩ : ∃ q : Nat, l.length - 1 - i = q := ⟨_, rfl⟩
        rw [hq] at hcell'
        have d1 : decide ((i : Int) < (l.length : Int)) = true := decide_eq_true (by omega)
        have d1b : decide (i < l.length) = true := decide_eq_true hlt
        have i1 : (0 ≤ (i : Int)) = True := eq_true (by omega)
        have i2 : ((i : Int) < (l.length : Int)) = True := eq_true (by omega)
        have i3 : (i < l.length) = True := eq_true hlt
        have j1 : (0 ≤ (q : Int)) = True := eq_true (by omega)
        have j2 : ((q : Int) < (l.length : Int)) = True := eq_true (by omega)
        have j3 : (q < l.length) = True := eq_true (by omega)
        have w1 : wrap64 ((i : Int) + 1) = ((i + 1 : Nat) : Int) := by have := HLL.out; unfold wrap64; omega
        have w2 : wrap64 ((l.length : Int) - 1) = (l.length : Int) - 1 := by have := HLL.out; unfold wrap64; omega
        have w3 : wrap64 ((l.length : Int) - 1 - (i : Int)) = (q : Int) := by have := HLL.out; unfold wrap64; omega
        have HLT := Aside0.mk hlt
        have HCK := Aside0.mk hck
        have HLC := Aside0.mk hlc
        have HKEY := Aside0.mk hkey
        have HCK' := Aside0.mk hck'
        have HLC' := Aside0.mk hlc'
        have HKEY' := Aside0.mk hkr
        have HQ := Aside0.mk hq
        have HCELL := Aside0.mk hcell'
        clear hlt hck hlc hkey hck' hlc' hkey' hkr hq hcell' hcell0
        go_wp2_with (first
          | (go_at_call 13; refine (keys_add_grown HK42.out HH.out.1 HH.out.2 HN.out.1 HN.out.2 (by rw [List.length_reverse]; exact HLT.out) HKEY'.out (Kd.C_below HCK'.out HK4.out.be) HLC'.out).mono ?_; rintro e w5 ⟨rfl, hk5, hg5⟩; have HK5 := Aside0.mk (show OrdI w g b g2 b2 n h l (i + 1) w5 from ⟨HK4.out.far hg5 HKI.out.d1 HKI.out.d2 HK42.out.bl, hk5, HKI.out.d1, HKI.out.d2, HKI.out.d3⟩); clear hk5 hg5)
          | ((with_reducible refine gate_callee (f := 13) rfl ?_); refine goesL_ (some 57) rfl rfl Try.func13 (by kernel_rfl) rfl #[ptr g, .slice A key.length c] rfl (by (try simp only [List.map_toArray, List.map_cons, List.map_nil]); first | done | rfl | (simp only [List.length_drop, List.length_take]; rfl)) ?_; refine (keys_add_grown HKI.out.k1 HH.out.1 HH.out.2 HN.out.1 HN.out.2 HLT.out HKEY.out (Kd.C_below HCK.out HKI.out.k1.be) HLC.out).mono ?_; rintro e w4 ⟨rfl, hk4, hg4⟩; have HK4 := Aside0.mk hk4; have HK42 := Aside0.mk (HKI.out.k2.far hg4 HKI.out.d3 (fun e => HKI.out.d2 e.symm) HKI.out.k1.bl); have hcell4 := cell_below HCELL.out hk4.be; clear hk4 hg4; refine ⟨_, rfl, ?_⟩))
        go_roundg (l.length - (i + 1))
        case measure => have := hik.out.2; have := HLT.out; omega
        case rel => exact ⟨i + 1, by rw [w1], ⟨HLT.out, rfl⟩, HK5⟩
      · have d1 : decide ((i : Int) < (l.length : Int)) = false := decide_eq_false (by omega)
        have d1b : decide (i < l.length) = false := decide_eq_false hlt
        have hlast : i = l.length := by have := hik.out.1; omega
        have hK0 := HKI.out
        rw [hlast] at hK0
        have HK5 := Aside0.mk hK0
        clear hlt hlast hK0
        obtain ⟨Z, hZ⟩ : ∃ Z, bitsAt n h l l.length = Z := ⟨_, rfl⟩
        have HZ := Aside0.mk hZ
        have hZl : Z.length = n := by rw [← hZ]; exact bitsAt_length n h l _
        have HZL := Aside0.mk hZl
        have HZB := Aside0.mk (show IsB Z by rw [← hZ]; exact bitsAt_bytes n h l _)
        have HMAY := Aside0.mk (show ∀ i, i < l.length → mayS Z (plcK n h (l.getD i [])) = true by rw [← hZ]; exact fun i hi => bitsAt_may n HN.out.1 h l hi)
        have hf1 := HK5.out.k1.fl
        have hf2 := HK5.out.k2.fl
        rw [bitsAt_rev n HN.out.1 h l, hZ] at hf2
        rw [hZ] at hf1
        clear hZ hZl
        have HF5 := Aside0.mk hf1
        have HX5 := Aside0.mk hf2
        have HB5 := Aside0.mk HK5.out.k1.be
        obtain ⟨X, hX⟩ : ∃ X, h :: Z = X := ⟨_, rfl⟩
        have HXE := Aside0.mk hX
        have hwr := fun g b W (hF : Flt W g b h Z) => write_read g b h Z W hF HH.out.1 (by have := HH.out.2; omega) (by rw [HZL.out]; exact HN.out.2)
        rw [hX] at hwr
        have WR := Aside0.mk hwr
        have wd := HDIV.out
        have wd0 : wrap64 (n : Int) = (n : Int) := by have := HN.out.2; unfold wrap64; omega
        have wd2 : wrap64 ((n : Int) + 1) = (n : Int) + 1 := by have := HN.out.2; unfold wrap64; omega
        have wlen : ((X.length : Nat) : Int) = (n : Int) + 1 := by rw [← hX, List.length_cons, HZL.out]; omega
        clear hX hwr
        clear hf1 hf2
        by_cases t0 : 0 ≤ tw ∧ tw < (l.length : Int)
        · obtain ⟨t1, t2⟩ := t0
          obtain ⟨q, rfl⟩ : ∃ q : Nat, tw = q := ⟨tw.toNat, by omega⟩
          have hql : q < l.length := by omega
          obtain ⟨ad, A, c, key, eA, hkey, hcell0, hlc, hck⟩ := key_at HR2.out hql
          cases eA
          have hcell := cell_below hcell0 HB5.out
          have e1 : decide ((q : Int) < (l.length : Int)) = true := decide_eq_true t2
          have e2 : decide (0 ≤ (q : Int)) = true := decide_eq_true t1
          have e1b : decide (q < l.length) = true := decide_eq_true hql
          have j1 : (0 ≤ (q : Int)) = True := eq_true (by omega)
          have j2 : ((q : Int) < (l.length : Int)) = True := eq_true (by omega)
          have j3 : (q < l.length) = True := eq_true (by omega)
          have hadd : ∀ W, Flt W g b h Z → Kd.C (Kd.int .u8) W A key.length key → Calls Try.prog 13 #[ptr g, .slice A key.length c] W fun e w' => e = .returned (.int .i64 0) ∧ Flt w' g b h Z ∧ W.grownBy w' (some b) := fun W hF hC => by
            have h_ := add_calls g b h Z A c key W hF HH.out.1 (by have := HH.out.2; omega) (by rw [HZL.out]; exact HN.out.1) (by rw [HZL.out]; exact HN.out.2) HZB.out hC hlc
            rw [HZL.out, add_self HZL.out HZB.out (plcK_fits n HN.out.1 h key) (by rw [← hkey]; exact HMAY.out q hql)] at h_; exact h_
          have D1 := Aside0.mk hadd
          have HCK := Aside0.mk hck
          clear hadd hck hlc hkey hcell0 hql t1 t2
          go_wp2_with (first
            | ((with_reducible refine gate_callee (f := 12) rfl ?_); refine goesL_ (some 92) rfl rfl Try.func12 (by kernel_rfl) rfl #[] rfl (by (try simp only [List.map_toArray, List.map_cons, List.map_nil]); first | done | rfl | (simp only [List.length_drop, List.length_take]; rfl)) ?_; refine (alive_calls _).mono ?_; rintro e w9 ⟨rfl, hb⟩; have HB9 := Aside0.mk (HB8.out.trans (hb.mono HB8.out.size)); have hs1 := str_of (c := c7) (Kd.C_below HC8.out hb); have hs2 := str_of (c := c8) (Kd.C_below HC8b.out hb); clear hb; refine ⟨_, rfl, ?_⟩)
            | ((with_reducible refine gate_callee (f := 18) rfl ?_); refine goesL_ (some 89) rfl rfl Try.func18 (by kernel_rfl) rfl #[ptr g2] rfl (by (try simp only [List.map_toArray, List.map_cons, List.map_nil]); first | done | rfl | (simp only [List.length_drop, List.length_take]; rfl)) ?_; refine (WR.out g2 b2 _ HX7.out).mono ?_; rintro e w8 ⟨A8, c8, rfl, hC, hc, hb⟩; have HB8 := Aside0.mk (HB7.out.trans (hb.mono HB7.out.size)); have HC8 := Aside0.mk (Kd.C_below HC7.out hb); have HC8b := Aside0.mk hC; clear hb hC hc; refine ⟨_, rfl, ?_⟩)
            | ((with_reducible refine gate_callee (f := 18) rfl ?_); refine goesL_ (some 84) rfl rfl Try.func18 (by kernel_rfl) rfl #[ptr g] rfl (by (try simp only [List.map_toArray, List.map_cons, List.map_nil]); first | done | rfl | (simp only [List.length_drop, List.length_take]; rfl)) ?_; refine (WR.out g b _ HF6.out).mono ?_; rintro e w7 ⟨A7, c7, rfl, hC, hc, hb⟩; have HB7 := Aside0.mk (HB6.out.trans (hb.mono HB6.out.size)); have HX7 := Aside0.mk (HX6.out.below hb); have HC7 := Aside0.mk hC; clear hb hC hc; refine ⟨_, rfl, ?_⟩)
            | ((with_reducible refine gate_callee (f := 13) rfl ?_); refine goesL_ (some 81) rfl rfl Try.func13 (by kernel_rfl) rfl #[ptr g, .slice A key.length c] rfl (by (try simp only [List.map_toArray, List.map_cons, List.map_nil]); first | done | rfl | (simp only [List.length_drop, List.length_take]; rfl)) ?_; refine (D1.out _ HF5.out (Kd.C_below HCK.out HB5.out)).mono ?_; rintro e w6 ⟨rfl, hF, hg⟩; have HB6 := Aside0.mk (HB5.out.grown hg HB5.out.size (fun k hk => by cases hk; exact HK5.out.k1.bl)); have HF6 := Aside0.mk hF; have HX6 := Aside0.mk (HX5.out.grown hg HK5.out.d3 (fun e => HK5.out.d2 e.symm)); clear hF hg; refine ⟨_, rfl, ?_⟩))
          go_ret
          exact ⟨rfl, HB9.out⟩
        · have hneg : (decide (0 ≤ tw) && decide (tw < (l.length : Int))) = false := by
            rw [Bool.and_eq_false_iff]
            by_cases h1 : 0 ≤ tw
            · right; exact decide_eq_false (fun h2 => t0 ⟨h1, h2⟩)
            · left; exact decide_eq_false h1
          by_cases h1 : 0 ≤ tw
          · have e1 : decide (0 ≤ tw) = true := decide_eq_true h1
            have e2 : decide (tw < (l.length : Int)) = false := decide_eq_false (fun h2 => t0 ⟨h1, h2⟩)
            clear h1 t0 hneg
            go_wp2_with (first
              | ((with_reducible refine gate_callee (f := 12) rfl ?_); refine goesL_ (some 92) rfl rfl Try.func12 (by kernel_rfl) rfl #[] rfl (by (try simp only [List.map_toArray, List.map_cons, List.map_nil]); first | done | rfl | (simp only [List.length_drop, List.length_take]; rfl)) ?_; refine (alive_calls _).mono ?_; rintro e w9 ⟨rfl, hb⟩; have HB9 := Aside0.mk (HB8.out.trans (hb.mono HB8.out.size)); have hs1 := str_of (c := c7) (Kd.C_below HC8.out hb); have hs2 := str_of (c := c8) (Kd.C_below HC8b.out hb); clear hb; refine ⟨_, rfl, ?_⟩)
              | ((with_reducible refine gate_callee (f := 18) rfl ?_); refine goesL_ (some 89) rfl rfl Try.func18 (by kernel_rfl) rfl #[ptr g2] rfl (by (try simp only [List.map_toArray, List.map_cons, List.map_nil]); first | done | rfl | (simp only [List.length_drop, List.length_take]; rfl)) ?_; refine (WR.out g2 b2 _ HX7.out).mono ?_; rintro e w8 ⟨A8, c8, rfl, hC, hc, hb⟩; have HB8 := Aside0.mk (HB7.out.trans (hb.mono HB7.out.size)); have HC8 := Aside0.mk (Kd.C_below HC7.out hb); have HC8b := Aside0.mk hC; clear hb hC hc; refine ⟨_, rfl, ?_⟩)
              | ((with_reducible refine gate_callee (f := 18) rfl ?_); refine goesL_ (some 84) rfl rfl Try.func18 (by kernel_rfl) rfl #[ptr g] rfl (by (try simp only [List.map_toArray, List.map_cons, List.map_nil]); first | done | rfl | (simp only [List.length_drop, List.length_take]; rfl)) ?_; refine (WR.out g b _ HF5.out).mono ?_; rintro e w7 ⟨A7, c7, rfl, hC, hc, hb⟩; have HB7 := Aside0.mk (HB5.out.trans (hb.mono HB5.out.size)); have HX7 := Aside0.mk (HX5.out.below hb); have HC7 := Aside0.mk hC; clear hb hC hc; refine ⟨_, rfl, ?_⟩))
            go_ret
            exact ⟨rfl, HB9.out⟩
          · have e1 : decide (0 ≤ tw) = false := decide_eq_false h1
            clear h1 t0 hneg
            go_wp2_with (first
              | ((with_reducible refine gate_callee (f := 12) rfl ?_); refine goesL_ (some 92) rfl rfl Try.func12 (by kernel_rfl) rfl #[] rfl (by (try simp only [List.map_toArray, List.map_cons, List.map_nil]); first | done | rfl | (simp only [List.length_drop, List.length_take]; rfl)) ?_; refine (alive_calls _).mono ?_; rintro e w9 ⟨rfl, hb⟩; have HB9 := Aside0.mk (HB8.out.trans (hb.mono HB8.out.size)); have hs1 := str_of (c := c7) (Kd.C_below HC8.out hb); have hs2 := str_of (c := c8) (Kd.C_below HC8b.out hb); clear hb; refine ⟨_, rfl, ?_⟩)
              | ((with_reducible refine gate_callee (f := 18) rfl ?_); refine goesL_ (some 89) rfl rfl Try.func18 (by kernel_rfl) rfl #[ptr g2] rfl (by (try simp only [List.map_toArray, List.map_cons, List.map_nil]); first | done | rfl | (simp only [List.length_drop, List.length_take]; rfl)) ?_; refine (WR.out g2 b2 _ HX7.out).mono ?_; rintro e w8 ⟨A8, c8, rfl, hC, hc, hb⟩; have HB8 := Aside0.mk (HB7.out.trans (hb.mono HB7.out.size)); have HC8 := Aside0.mk (Kd.C_below HC7.out hb); have HC8b := Aside0.mk hC; clear hb hC hc; refine ⟨_, rfl, ?_⟩)
              | ((with_reducible refine gate_callee (f := 18) rfl ?_); refine goesL_ (some 84) rfl rfl Try.func18 (by kernel_rfl) rfl #[ptr g] rfl (by (try simp only [List.map_toArray, List.map_cons, List.map_nil]); first | done | rfl | (simp only [List.length_drop, List.length_take]; rfl)) ?_; refine (WR.out g b _ HF5.out).mono ?_; rintro e w7 ⟨A7, c7, rfl, hC, hc, hb⟩; have HB7 := Aside0.mk (HB5.out.trans (hb.mono HB5.out.size)); have HX7 := Aside0.mk (HX5.out.below hb); have HC7 := Aside0.mk hC; clear hb hC hc; refine ⟨_, rfl, ?_⟩))
            go_ret
            exact ⟨rfl, HB9.out⟩

end Go.Proofs.Ytliafeandefocaa.P
