/- The reference's Write: its bytes. No conditions. -/
import Derived.Test.YtliafeandefocaaBloomRC
import Derived.Test.YtliafeandefocaaPrickyardref07FilterWrite
namespace Go.Proofs.Ytliafeandefocaa.P
open Go.RowKit Go.Proofs.YtliafeandefocaaW.PrintWords Go.Proofs.YtliafeandefocaaW.PrintLast Go.Proofs.YtliafeandefocaaW.PrintMore
set_option linter.unusedVariables false
set_option linter.unusedSimpArgs false

theorem rw_l1 (n : Nat) (hn : n ≤ 8192) (l : List Int) (h : Int) (out : List Int) (ho : out.length ≤ 10000) (j : Nat) (hj : j < n) (v : Nat) (hv : (l.getD j 0) = (v : Int)) (h256 : v < 256) :
    ∀ (c : Nat), c ≤ 8 → ∀ K, rickyardref07_Filter_Write.l1 (K + c + 1) out (8 * (j : Int)) ((v / 2 ^ c : Nat) : Int) ((c : Int) - 1) (RD n l) h = rickyardref07_Filter_Write.l0 K (out ++ [(v : Int)]) (8 * ((j + 1 : Nat) : Int)) (RD n l) h := by
  intro c
  induction c with
  | zero =>
    intro _ K
    rw [rickyardref07_Filter_Write.l1, if_neg (by omega), if_pos (by omega)]
    have e1 : (((v / 2 ^ 0 : Nat) : Int) % 256) = (v : Int) := by simp; omega
    have e2 : wrap64 (8 * (j : Int) + 8) = 8 * ((j + 1 : Nat) : Int) := by unfold wrap64; omega
    rw [e1, e2]
  | succ c ih =>
    intro hc K
    have e0 : ((c + 1 : Nat) : Int) - 1 = (c : Int) := by omega
    rw [show K + (c + 1) + 1 = (K + c + 1) + 1 from rfl, rickyardref07_Filter_Write.l1, e0, if_pos (by omega)]
    have e1 : wrap64 (8 * (j : Int) + (c : Int)) = ((8 * j + c : Nat) : Int) := by unfold wrap64; omega
    have e2 : wrap64 ((c : Int) - 1) = (c : Int) - 1 := by unfold wrap64; omega
    rw [e1, if_pos (by omega), if_pos (by rw [RD_length]; omega), e2]
    have e3 : rdOf false (RD n l) ((8 * j + c : Nat) : Int) = v.testBit c := by
      have h1 : rdOf false (RD n l) ((8 * j + c : Nat) : Int) = (RD n l).getD (8 * j + c) false := by unfold rdOf; rw [Int.toNat_natCast]
      rw [h1, RD_getD n l (by omega), bitAt]
      have a1 : (((8 * j + c : Nat) : Int) / 8).toNat = j := by omega
      have a2 : (((8 * j + c : Nat) : Int) % 8).toNat = c := by omega
      rw [a1, a2, hv, Int.toNat_natCast]
    rw [e3]
    have hq : v / 2 ^ (c + 1) = v / 2 ^ c / 2 := by rw [Nat.pow_succ, Nat.div_div_eq_div_mul]
    have hb : v.testBit c = decide (v / 2 ^ c % 2 = 1) := Nat.testBit_eq_decide_div_mod_eq
    have hlt : v / 2 ^ c < 256 := Nat.lt_of_le_of_lt (Nat.div_le_self _ _) h256
    have ih' := ih (by omega) K
    rw [hq, hb]
    generalize v / 2 ^ c = y at hlt ih' ⊢
    have w1 : wrap64 (2 * ((y / 2 : Nat) : Int)) = 2 * ((y / 2 : Nat) : Int) := by unfold wrap64; omega
    by_cases hy : y % 2 = 1
    · rw [if_pos (decide_eq_true hy), w1]
      have w2 : wrap64 (2 * ((y / 2 : Nat) : Int) + 1) = (y : Int) := by unfold wrap64; omega
      rw [w2]; exact ih'
    · rw [if_neg (by simp [hy]), w1]
      have w2 : 2 * ((y / 2 : Nat) : Int) = (y : Int) := by omega
      rw [w2]; exact ih'
theorem rw_l0 (n : Nat) (hn : n ≤ 8192) (l : List Int) (hl : l.length = n) (hB : IsB l) (h : Int) : ∀ (m j : Nat), j + m = n → ∀ (out : List Int), out.length = j + 1 → rickyardref07_Filter_Write.l0 (10 * m + 1) out (8 * (j : Int)) (RD n l) h = some (out ++ l.drop j, h) := by
  intro m
  induction m with
  | zero =>
    intro j hj out ho
    rw [rickyardref07_Filter_Write.l0, if_neg (by rw [RD_length]; omega), List.drop_of_length_le (by omega)]
    simp
  | succ m ih =>
    intro j hj out ho
    rw [show 10 * (m + 1) + 1 = (10 * m + 1 + 8 + 1) + 1 from by omega, rickyardref07_Filter_Write.l0, if_pos (by rw [RD_length]; omega)]
    have hg := hB.getD j
    obtain ⟨v, hv⟩ : ∃ v : Nat, l.getD j 0 = v := ⟨(l.getD j 0).toNat, by omega⟩
    have h256 : v < 256 := by omega
    have hz : v / 2 ^ 8 = 0 := Nat.div_eq_of_lt (by omega)
    have h1 := rw_l1 n hn l h out (by omega) j (by omega) v hv h256 8 (Nat.le_refl _) (10 * m + 1)
    rw [hz] at h1
    rw [show ((8 : Nat) : Int) - 1 = 7 from rfl] at h1
    refine h1.trans ?_
    rw [ih (j + 1) (by omega) (out ++ [(v : Int)]) (by simp [ho])]
    have hjl : j < l.length := by omega
    rw [List.drop_eq_getElem_cons hjl]
    have : l[j] = (v : Int) := by rw [← hv, List.getD_eq_getElem?_getD, List.getElem?_eq_getElem hjl]; rfl
    rw [this]; simp
theorem rwrite_f (n : Nat) (hn : n ≤ 8192) (l : List Int) (hl : l.length = n) (hB : IsB l) (h : Int) (h1 : 1 ≤ h) (h2 : h ≤ 8) : rickyardref07_Filter_Write.f (10 * n + 1) (RD n l) h = some (h :: l, h) := by
  unfold rickyardref07_Filter_Write.f
  rw [if_pos (by decide), show h % 256 = h by omega]
  exact rw_l0 n hn l hl hB h n 0 (by omega) ([] ++ [h]) rfl

theorem rwrite_calls (g d n : Nat) (h : Int) (l : List Int) (w : World) (hF : RFlt w g d h (RD n l)) (hdg : d < g) (hn : n ≤ 8192) (hl : l.length = n) (hB : IsB l) (h1 : 1 ≤ h) (h2 : h ≤ 8) :
    Calls Try.prog 19 #[ptr g] w fun e w' => ∃ A c, e = .returned (.slice A (h :: l).length c) ∧ Kd.C (Kd.int .u8) w' A (h :: l).length (h :: l) ∧ w.grownBy w' (some g) := by
  have hgt := hF.gt
  obtain ⟨w0, hw0⟩ : ∃ w0 : World, w0 = { w with heap := w.heap.extract 0 g } := ⟨_, rfl⟩
  have hs : w0.heap.size = g := by rw [hw0]; simp; omega
  have hk : ∀ k, k < g → w0.heap[k]? = w.heap[k]? := fun k hk => by rw [hw0]; simp [Array.getElem?_extract]; omega
  have hbel : Below w0.heap.size w0 w := by
    refine ⟨by rw [hw0], by rw [hw0], by rw [hw0], by rw [hs]; omega, fun k hk2 => (hk k (by omega)).symm⟩
  have hC : Kd.C Kd.bool w0 (some ⟨d, 0, none⟩) (RD n l).length (RD n l) := by
    refine ⟨rfl, by rw [RD_length]; omega, fun _ => ⟨_, rfl, fun j p hj => ⟨[.bool p], rfl, rfl, fun i u hu => ?_⟩⟩⟩
    have hi : i = 0 ∧ u = .bool p := by
      cases i with
      | zero => simp at hu; exact ⟨rfl, hu.symm⟩
      | succ i => simp at hu
    obtain ⟨rfl, rfl⟩ := hi
    have e1 : (⟨d, 0, none⟩ : Addr).add (j * Kd.bool.sz + 0) = ⟨d, j, none⟩ := by
      show (⟨d, 0, none⟩ : Addr).add (j * 1 + 0) = _
      simp [Addr.add, eq_comm]
    rw [e1, World.cell?_of_block (hk d hdg)]
    obtain ⟨q1, q2⟩ := List.getElem?_eq_some_iff.1 hj
    rw [hF.at_ q1, List.getD_eq_getElem?_getD, hj]
    rfl
  have hI : IsS57 w0 w g (RD n l) h := ⟨some ⟨d, 0, none⟩, (RD n l).length, hF.fl, by omega, hC⟩
  refine (rickyardref07_Filter_Write.calls _ g (RD n l) h _ _ w0 w hI hbel (rwrite_f n hn l hl hB h h1 h2)).mono fun e w' ⟨v, he, hR, _, hb0, hkb⟩ => ?_
  obtain ⟨A, c, rfl, hl2, hC2⟩ := Kd.R_reads hR
  exact ⟨A, c, he, hC2, hb0.os.trans (by rw [hw0]), hb0.tape.trans (by rw [hw0]), hb0.output.trans (by rw [hw0]), hkb.1, fun k h1 h2 => hkb.2 k h1 (fun e => h2 (by rw [e])) (by simp)⟩

end Go.Proofs.Ytliafeandefocaa.P
