/- The reference's decimal digits of a number: divided by ten again and again. Condition: sixteen digits to the base 256. -/
import Derived.Test.YtjmobjjajnnodaaERef01B
import Derived.Test.YtjmobjjajnnodaaEPrint
namespace Go.Proofs.Ytjmobjjajnnodaa.P
open Go.RowKit Go.Proofs.YtjmobjjajnnodaaW.PrintWords Go.Proofs.YtjmobjjajnnodaaW.PrintLast Go.Proofs.YtjmobjjajnnodaaW.PrintMore
set_option linter.unusedVariables false
set_option linter.unusedSimpArgs false

/-- Digits already divided, from the greatest one on. -/
def dvd (c i : Nat) (j : Nat) : Nat := if j < i then dg c j else dg (c / 10) j
theorem dvd_all (c : Nat) : cells16 (dvd c 16) = cells16 (dg c) := cells16_congr fun j hj => by unfold dvd; rw [if_pos hj]
theorem dvd_none (c : Nat) : cells16 (dvd c 0) = cells16 (dg (c / 10)) := cells16_congr fun j hj => by unfold dvd; rw [if_neg (Nat.not_lt_zero _)]
theorem dvd_set (c i : Nat) : cells16 (fun j => if j = i then dg (c / 10) i else dvd c (i + 1) j) = cells16 (dvd c i) := cells16_congr fun j hj => by
  unfold dvd
  by_cases h : j = i
  · subst h; rw [if_pos rfl, if_neg (by omega)]
  · rw [if_neg h]
    by_cases h2 : j < i
    · rw [if_pos (by omega), if_pos h2]
    · rw [if_neg (by omega), if_neg h2]
/-- One step of the division. -/
theorem dvd_step (c i : Nat) : ∃ n : Nat, n = 256 * (c / 256 ^ (i + 1) % 10) + dg c i ∧ n / 10 = dg (c / 10) i ∧ n % 10 = c / 256 ^ i % 10 ∧ n < 2560 ∧ dg c i < 256 ∧ dg (c / 10) i < 256 ∧ c / 256 ^ (i + 1) % 10 < 10 ∧ ((0 < c / 10 / 256 ^ i) ↔ (0 < c / 10 / 256 ^ (i + 1) ∨ 0 < dg (c / 10) i)) := by
  refine ⟨_, rfl, ?_⟩
  have e1 : c / 256 ^ (i + 1) = c / 256 ^ i / 256 := by rw [Nat.pow_succ, Nat.div_div_eq_div_mul]
  have e2 : c / 10 / 256 ^ (i + 1) = c / 256 ^ i / 10 / 256 := by rw [Nat.pow_succ, ← Nat.div_div_eq_div_mul, Nat.div_div_eq_div_mul c 10, Nat.mul_comm 10, ← Nat.div_div_eq_div_mul c]
  have e3 : c / 10 / 256 ^ i = c / 256 ^ i / 10 := by rw [Nat.div_div_eq_div_mul c 10, Nat.mul_comm 10, ← Nat.div_div_eq_div_mul c]
  unfold dg
  rw [e1, e2, e3]
  generalize c / 256 ^ i = y
  omega

set_option maxHeartbeats 4000000 in
set_option maxRecDepth 100000 in
theorem ref_decimal (x : Nat) (w : World) (hx : x < 340282366920938463463374607431768211456) (hD : (dec x).length ≤ 100) :
    Calls Try.prog 35 #[.agg (cells16 (dg x)).toArray] w fun e w' => e = .returned (.string (strOfNums (dec x))) ∧ Below w.heap.size w w' := by
  have hu2 := Try.underlying48
  have HB0 := Aside0.mk (Below.refl w.heap.size w)
  have HX := Aside0.mk hx
  have HD := Aside0.mk hD
  clear hx hD
  go_enter Try.func35, Try.ntmps35
  go_wp2
  obtain ⟨g, hg⟩ : ∃ g, w.heap.size = g := ⟨_, rfl⟩
  have HGE := Aside0.mk hg
  have B0 := Aside0.mk (blk_new w (.cells (cells16 (dg x)).toArray 48))
  have HB1 := Aside0.mk (below_alloc HB0.out (.cells (cells16 (dg x)).toArray 48))
  rw [hg] at B0
  have hne : ∀ q, q ∈ 5 :: (Kd.int .u8).E → q ≠ 48 := by decide
  have HNE := Aside0.mk hne
  rw [hg]
  clear hg hne
  go_loopg [3, 4] (x + 2) (fun kq v3 v4 w' => ∃ (c : Nat) (bb : Bool) (bk : List Int), v4 = .bool bb ∧ Aside0 (kq = (if bb = true then c + 2 else 0) ∧ c ≤ x ∧ dec x = (if bb = true then dec c else []) ++ bk.reverse) ∧ Aside0 (Kd.R (Kd.int .u8) 5 w' w.heap.size (fun _ => True) v3 bk) ∧ Aside0 (w'.heap[g]? = some (.cells (cells16 (dg c)).toArray 48 (0, 0))) ∧ Aside0 (Below w.heap.size w w'))
  case atStart => exact ⟨x, true, [], rfl, ⟨rfl, Nat.le_refl _, by simp⟩, ⟨Kd.R_nil _ _ _ _ _⟩, B0, HB1⟩
  case round =>
    obtain ⟨c, bb, bk, rfl, HI, HO, BD, HB⟩ := hrel
    cases bb with
    | false =>
      obtain ⟨wo, rfl⟩ : ∃ wo : World, wo = wr := ⟨_, rfl⟩
      have HO2 := HO
      obtain ⟨A, cp, rfl, hle, hC⟩ := Kd.R_reads HO.out
      have HC := Aside0.mk hC
      have HLE := Aside0.mk (show bk.length ≤ 100 by have h_ := HI.out.2.2; rw [if_neg (by decide), List.nil_append] at h_; have := congrArg List.length h_; rw [List.length_reverse] at this; have := HD.out; omega)
      have HEQ := Aside0.mk (show dec x = bk.reverse by have h_ := HI.out.2.2; rwa [if_neg (by decide), List.nil_append] at h_)
      obtain ⟨n, hn⟩ : ∃ n, bk.length = n := ⟨_, rfl⟩
      have HNN := Aside0.mk hn
      rw [hn]
      obtain ⟨iv0, hiv0⟩ : ∃ i : Int, (n : Int) - 1 = i := ⟨_, rfl⟩
      have HIV0 := Aside0.mk hiv0
      have hll : wrap64 ((n : Int) - 1) = iv0 := by have := HLE.out; unfold wrap64; omega
      clear hle hC HO HO2 BD hn hiv0
      go_wp2
      go_loopg [8, 9] n (fun kq v8 v9 w' => ∃ (k : Nat) (iv : Int), v9 = .int .i64 iv ∧ Aside0 (iv = (n : Int) - 1 - (k : Int) ∧ k ≤ n ∧ kq = n - k) ∧ Aside0 (Kd.R (Kd.int .u8) 5 w' wo.heap.size (fun _ => True) v8 (bk.reverse.take k)) ∧ Aside0 (Below wo.heap.size wo w'))
      case atStart => exact ⟨0, _, rfl, ⟨by rw [hll, ← HIV0.out]; omega, Nat.zero_le _, rfl⟩, ⟨Kd.R_nil _ _ _ _ _⟩, ⟨Below.refl _ _⟩⟩
      case round =>
        clear hll
        obtain ⟨k, iv, rfl, HK, HO, HBW⟩ := hrel
        by_cases hk : k < n
        · have hK := HK.out
          have hC2 := Kd.C_below HC.out HBW.out
          obtain ⟨k1, k2, k3⟩ := Kd.reads_of_C (d := (0 : Int)) hC2
          have hn := HNN.out
          obtain ⟨ad, rfl, hcell⟩ := k3 (by omega)
          have hcz := hcell (n - 1 - k) (by omega)
          obtain ⟨d, hd⟩ : ∃ d : Int, bk.getD (n - 1 - k) 0 = d := ⟨_, rfl⟩
          have hrd : rdOf (0 : Int) bk ((n - 1 - k : Nat) : Int) = d := by unfold rdOf; rw [Int.toNat_natCast]; exact hd
          have hsn : bk.reverse.take (k + 1) = bk.reverse.take k ++ [d] := by
            rw [List.take_add_one, List.getElem?_reverse (by omega), hn, List.getElem?_eq_getElem (by omega)]
            rw [← hd, List.getD_eq_getElem?_getD, List.getElem?_eq_getElem (by omega)]
            rfl
          have c1 : decide (0 ≤ iv) = true := decide_eq_true (by omega)
          have c2 : (0 ≤ iv) = True := eq_true (by omega)
          have c3 : (iv < (n : Int)) = True := eq_true (by omega)
          have c4 : iv.toNat = n - 1 - k := by omega
          have w3 : wrap64 (iv - 1) = (n : Int) - 1 - ((k + 1 : Nat) : Int) := by have := HLE.out; unfold wrap64; omega
          have HSN := Aside0.mk hsn
          have HKN := Aside0.mk hk
          have W3 := Aside0.mk w3
          have HTL := Aside0.mk (show (bk.reverse.take k).length = k by rw [List.length_take, List.length_reverse]; omega)
          have hcz2 : wr.cell? (ad.add (n - 1 - k)) = some (.int .u8 d) := by rw [← hrd]; exact hcz
          clear hK k1 k2 k3 hC2 hcell hd hsn hk w3 hn hcz hrd
          go_wp2_with (first
            | ((with_reducible refine gate_builtin (b := .append) (xs := #[.tmp 47, .tmp 52]) rfl ?_); at_builtin; refine Kd.R_append (Kd.int .u8) (w0 := wo) wo.heap.size rfl (.tmp 47) (.tmp 52) 42 5 (.int .u8 0) 1 rfl Try.underlying42 info_u8 rfl (by decide) (by omega) _ (bk.reverse.take k) d [.int .u8 d] (fun _ => True) (fun _ => False) rfl rfl ?hp (fun _ h => h.elim) (fun _ _ => trivial) ?HO ?HB ?hb ?hl ?_; (case hp => rfl); (case HO => exact HO.out); (case HB => exact HBW.out); (case hb => exact HBW.out.size); (case hl => have := HKN.out; have := HTL.out; have := HLE.out; have := HNN.out; omega); intro v1 w1 ho hb hgr hat; have HO1 := Aside0.mk ho; have HB1 := Aside0.mk hb; clear ho hb hgr hat))
          go_roundg (n - (k + 1))
          case measure => have := HK.out.2.2; have := HKN.out; omega
          case rel => exact ⟨k + 1, _, rfl, ⟨W3.out, HKN.out, rfl⟩, ⟨by rw [HSN.out]; exact HO1.out⟩, HB1⟩
        · have c1 : decide (0 ≤ iv) = false := decide_eq_false (by have := HK.out; omega)
          have hkn : k = n := by have := HK.out; omega
          have hO := HO.out
          rw [hkn, ← HNN.out, ← List.length_reverse, List.take_length, ← HEQ.out] at hO
          obtain ⟨A2, cp2, rfl, hle2, hC2⟩ := Kd.R_reads hO
          have hcv := Kd.C_string (P := Try.prog) (A := A2) (c := cp2) Try.underlying42 Try.underlying5 Try.underlying9 hC2
          clear hk hkn hO hle2 hC2
          go_wp2
          go_ret
          exact ⟨rfl, HB.out.trans (HBW.out.mono HB.out.size)⟩
    | true =>
      obtain ⟨wo, rfl⟩ : ∃ wo : World, wo = wr := ⟨_, rfl⟩
      have HSP := Aside0.mk (show dec x = dec c ++ bk.reverse ∧ gk = c + 2 from ⟨by have h := HI.out.2.2; simpa using h, by have h := HI.out.1; simpa using h⟩)
      have HC340 := Aside0.mk (show c < 340282366920938463463374607431768211456 by have := HX.out; have := HI.out.2.1; omega)
      have hz : c / 256 ^ 16 = 0 := Nat.div_eq_of_lt (by rw [show (256 : Nat) ^ 16 = 340282366920938463463374607431768211456 from rfl]; exact HC340.out)
      have hz2 : c / 10 / 256 ^ 16 = 0 := Nat.div_eq_of_lt (by rw [show (256 : Nat) ^ 16 = 340282366920938463463374607431768211456 from rfl]; have := HC340.out; omega)
      have HZ := Aside0.mk (And.intro hz hz2)
      clear hz hz2
      go_wp2
      go_loopg [4, 5, 6] 16 (fun kq v4 v5 v6 w' => ∃ (i : Nat) (mb : Bool) (rv iv : Int), v4 = .bool mb ∧ v5 = .int .i64 rv ∧ v6 = .int .i64 iv ∧ Aside0 (iv = (i : Int) - 1 ∧ i ≤ 16 ∧ kq = i ∧ rv = ((c / 256 ^ i % 10 : Nat) : Int) ∧ mb = decide (0 < c / 10 / 256 ^ i)) ∧ Aside0 (Kd.R (Kd.int .u8) 5 w' w.heap.size (fun _ => True) u3 bk) ∧ Aside0 (w'.heap[g]? = some (.cells (cells16 (dvd c i)).toArray 48 (0, 0))) ∧ Aside0 (Below w.heap.size w w'))
      case atStart => exact ⟨16, false, 0, 15, rfl, rfl, rfl, ⟨rfl, by decide, rfl, by rw [HZ.out.1]; rfl, by rw [HZ.out.2]; rfl⟩, HO, ⟨by rw [dvd_all]; exact BD.out⟩, HB⟩
      case round =>
        obtain ⟨i, mb, rv, iv, rfl, rfl, rfl, HK, HO2, BD2, HB2⟩ := hrel
        rcases i with _ | i
        · have c1 : decide (0 ≤ iv) = false := decide_eq_false (by have := HK.out; omega)
          obtain ⟨dd, hdd⟩ : ∃ dd : Int, dd = 48 + rv := ⟨_, rfl⟩
          have hk4 := HK.out.2.2.2.1
          rw [Nat.pow_zero, Nat.div_one] at hk4
          have hk5 := HK.out.2.2.2.2
          rw [Nat.pow_zero, Nat.div_one] at hk5
          have w1 : wrap64 (48 + rv) = dd := by unfold wrap64; omega
          have w2 : dd % 256 = dd := by omega
          have w3 : IntKind.u8.wrap dd = dd := by rw [IntKind.wrap_u8]; omega
          have HDD := Aside0.mk (show dd = 48 + ((c % 10 : Nat) : Int) by rw [hdd, hk4])
          have HMB := Aside0.mk hk5
          have HLE := Aside0.mk (show bk.length ≤ 100 by have h_ := congrArg List.length HSP.out.1; rw [List.length_append, List.length_reverse] at h_; have := HD.out; omega)
          have BDN := Aside0.mk (show wr.heap[g]? = some (.cells (cells16 (dg (c / 10))).toArray 48 (0, 0)) by rw [← dvd_none]; exact BD2.out)
          clear hdd hk4 hk5 BD2
          go_wp2_with (first
            | ((with_reducible refine gate_builtin (b := .append) (xs := #[.tmp 34, .tmp 38]) rfl ?_); at_builtin; refine Kd.R_append (Kd.int .u8) (w0 := w) w.heap.size rfl (.tmp 34) (.tmp 38) 42 5 (.int .u8 0) 1 rfl Try.underlying42 info_u8 rfl (by decide) (by omega) _ bk dd [.int .u8 dd] (fun _ => True) (fun _ => False) rfl rfl ?hp (fun _ h => h.elim) (fun _ _ => trivial) ?HO ?HB ?hb ?hl ?_; (case hp => rfl); (case HO => exact HO2.out); (case HB => exact HB2.out); (case hb => exact HB2.out.size); (case hl => have := HLE.out; omega); intro v1 w1 ho hb hgr hat; have HO1 := Aside0.mk ho; have HB1 := Aside0.mk hb; have BD1 := Aside0.mk (blk_grown BDN.out hgr (Kd.R_ne HO2.out BDN.out (by decide))); clear ho hb hgr hat))
          go_roundg (if mb = true then c / 10 + 2 else 0)
          case measure =>
            rw [HSP.out.2]
            split
            · next h2 => rw [HMB.out] at h2; have := of_decide_eq_true h2; omega
            · omega
          case rel =>
            refine ⟨c / 10, mb, bk ++ [dd], rfl, ⟨rfl, by have := HI.out.2.1; omega, ?_⟩, HO1, BD1, HB1⟩
            rw [HSP.out.1, List.reverse_append, HDD.out]
            cases hmb : mb with
            | true =>
              have : ¬ c < 10 := by rw [HMB.out] at hmb; have := of_decide_eq_true hmb; omega
              rw [dec_ge this, if_pos rfl]; simp
            | false =>
              have : c < 10 := by rw [HMB.out] at hmb; have := of_decide_eq_false hmb; omega
              rw [dec_lt this, if_neg (by decide), show c % 10 = c by omega]; simp
        · obtain ⟨n, hn, e1, e2, b1, b2, b3, b4, hmore⟩ := dvd_step c i
          have hK := HK.out
          obtain ⟨d0, hd0⟩ : ∃ d : Int, d = (dg c i : Int) := ⟨_, rfl⟩
          obtain ⟨p0, hp0⟩ : ∃ d : Int, d = 256 * rv := ⟨_, rfl⟩
          obtain ⟨nv, hnv⟩ : ∃ d : Int, d = (n : Int) := ⟨_, rfl⟩
          obtain ⟨qv, hqv⟩ : ∃ d : Int, d = (dg (c / 10) i : Int) := ⟨_, rfl⟩
          obtain ⟨r2, hr2⟩ : ∃ d : Int, d = ((c / 256 ^ i % 10 : Nat) : Int) := ⟨_, rfl⟩
          have c1 : decide (0 ≤ iv) = true := decide_eq_true (by omega)
          have c2 : (0 ≤ iv) = True := eq_true (by omega)
          have c3 : (iv < 16) = True := eq_true (by omega)
          have c4 : iv.toNat = i := by omega
          have w1 : wrap64 (256 * rv) = p0 := by unfold wrap64; omega
          have w2 : wrap64 (p0 + d0) = nv := by unfold wrap64; omega
          have w3 : nv.tdiv 10 = qv := by rw [Int.tdiv_eq_ediv_of_nonneg (by omega)]; omega
          have w4 : nv.tmod 10 = r2 := by rw [Int.tmod_eq_emod_of_nonneg (by omega)]; omega
          have w5 : wrap64 qv = qv := by unfold wrap64; omega
          have w6 : wrap64 r2 = r2 := by unfold wrap64; omega
          have w7 : wrap64 (iv - 1) = (i : Int) - 1 := by unfold wrap64; omega
          have hcz_0 : wr.cell? ⟨g, i, none⟩ = some (.int .i64 d0) := by rw [hd0]; exact (blk_cell BD2.out i).trans ((cells16_at _ (by omega)).trans (by unfold dvd; rw [if_pos (by omega)]))
          have hfz_0 := blk_frozen BD2.out i
          have BD3 := Aside0.mk (show (wr.setCell ⟨g, i, none⟩ (.int .i64 qv)).heap[g]? = some (.cells (cells16 (dvd c i)).toArray 48 (0, 0)) by
            have e := blk_set BD2.out i (.int .i64 qv)
            rw [hqv, cells16_set, dvd_set] at e
            rw [hqv]; exact e)
          have HO3 := Aside0.mk (Kd.R_set HO2.out BD2.out HNE.out i (.int .i64 qv))
          have HB3 := Aside0.mk (below_set (g := g) (j := i) (v := .int .i64 qv) HB2.out (by have := HGE.out; omega))
          have H16 := Aside0.mk (show i + 1 ≤ 16 by omega)
          have HR2 := Aside0.mk hr2
          have HMM := Aside0.mk hmore
          have HQV := Aside0.mk hqv
          have HMB := Aside0.mk hK.2.2.2.2
          cases mb with
          | true =>
            clear hK hn e1 e2 b1 b2 b3 b4 hmore hd0 hp0 hnv hqv hr2
            go_wp2
            go_roundg i
            case measure => have := HK.out.2.2.1; omega
            case rel =>
              refine ⟨i, true, r2, _, rfl, rfl, by rw [w7], ⟨rfl, by have := H16.out; omega, rfl, HR2.out, ?_⟩, HO3, BD3, HB3⟩
              exact (decide_eq_true (HMM.out.2 (.inl (of_decide_eq_true HMB.out.symm)))).symm
          | false =>
            have hqd : ∃ mq : Bool, decide (0 < qv) = mq := ⟨_, rfl⟩
            obtain ⟨mq, hmq⟩ := hqd
            have HMQ := Aside0.mk hmq
            clear hK hn e1 e2 b1 b2 b3 b4 hmore hd0 hp0 hnv hqv hr2
            go_wp2
            go_roundg i
            case measure => have := HK.out.2.2.1; omega
            case rel =>
              refine ⟨i, mq, r2, _, rfl, rfl, by rw [w7], ⟨rfl, by have := H16.out; omega, rfl, HR2.out, ?_⟩, HO3, BD3, HB3⟩
              rw [← HMQ.out]
              have h1 := of_decide_eq_false HMB.out.symm
              exact decide_eq_decide.2 ⟨fun h => HMM.out.2 (.inr (by have := HQV.out; omega)), fun h => (HMM.out.1 h).elim (fun h2 => absurd h2 h1) (fun h2 => by have := HQV.out; omega)⟩

end Go.Proofs.Ytjmobjjajnnodaa.P
