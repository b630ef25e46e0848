/- rickyardlaw01.WideOrdered: the order is that of the bytes with the first digit turned; a sum with what is above 0 is greater. No conditions. -/
import Derived.Test.YtjmobjjajnnodaaWidePure1
import Derived.Test.YtjmobjjajnnodaaWideParse
import Derived.Test.YtjmobjjajnnodaaBytesV
import Derived.Test.YtjmobjjajnnodaaPrickyardlaw01WideOrdered
namespace Go.Proofs.Ytjmobjjajnnodaa.Pure
open Go.RowKit Go.Proofs.Ytjmobjjajnnodaa.P Go.Proofs.YtjmobjjajnnodaaW.PrintWords Go.Proofs.YtjmobjjajnnodaaW.PrintLast
set_option linter.unusedVariables false

/-- The number of bytes, the greatest first. -/
def vb : List Int → Nat
  | [] => 0
  | a :: t => a.toNat * 256 ^ t.length + vb t
theorem vb_lt : ∀ {l : List Int}, ByB l → vb l < 256 ^ l.length
  | [], _ => Nat.one_pos
  | a :: t, h => by
    have h1 := h a (List.mem_cons_self ..)
    have ih := vb_lt (l := t) (fun x hx => h x (List.mem_cons_of_mem _ hx))
    rw [vb, List.length_cons, Nat.pow_succ]
    have h2 : a.toNat * 256 ^ t.length ≤ 255 * 256 ^ t.length := Nat.mul_le_mul_right _ (by omega)
    omega
theorem less_vb : ∀ {a b : List Int}, ByB a → ByB b → a.length = b.length → Op.bytesLess (strOfNums a).toList (strOfNums b).toList = decide (vb a < vb b)
  | [], [], _, _, _ => by rw [Go.Lib.strOfNums_toList]; rfl
  | [], _ :: _, _, _, h => by cases h
  | _ :: _, [], _, _, h => by cases h
  | x :: a, y :: b, ha, hb, h => by
    have hx := ha x (List.mem_cons_self ..)
    have hy := hb y (List.mem_cons_self ..)
    have ha2 : ByB a := fun z hz => ha z (List.mem_cons_of_mem _ hz)
    have hb2 : ByB b := fun z hz => hb z (List.mem_cons_of_mem _ hz)
    have hl : a.length = b.length := by simpa using h
    have ih := less_vb ha2 hb2 hl
    rw [Go.Lib.strOfNums_toList, Go.Lib.strOfNums_toList] at ih ⊢
    have l1 := vb_lt ha2
    have l2 := vb_lt hb2
    rw [hl] at l1
    show (decide (UInt8.ofNat x.toNat < UInt8.ofNat y.toNat) || (UInt8.ofNat x.toNat == UInt8.ofNat y.toNat && Op.bytesLess (Go.Lib.bytesOf a) (Go.Lib.bytesOf b))) = _
    rw [ih, vb, vb, hl]
    have e1 : (UInt8.ofNat x.toNat < UInt8.ofNat y.toNat) ↔ x < y := by
      rw [UInt8.lt_iff_toNat_lt, UInt8.toNat_ofNat', UInt8.toNat_ofNat']; omega
    have e2 : (UInt8.ofNat x.toNat = UInt8.ofNat y.toNat) ↔ x = y := by
      constructor
      · intro h2
        have := congrArg UInt8.toNat h2
        rw [UInt8.toNat_ofNat', UInt8.toNat_ofNat'] at this
        omega
      · intro h2; rw [h2]
    by_cases c1 : x < y
    · have h3 : (x.toNat + 1) * 256 ^ b.length ≤ y.toNat * 256 ^ b.length := Nat.mul_le_mul_right _ (by omega)
      rw [Nat.add_mul] at h3
      rw [decide_eq_true (e1.2 c1), Bool.true_or]
      exact (decide_eq_true (by omega)).symm
    · rw [decide_eq_false (fun h4 => c1 (e1.1 h4)), Bool.false_or]
      by_cases c2 : x = y
      · subst c2
        simp only [beq_self_eq_true, Bool.true_and, Nat.add_lt_add_iff_left]
      · rw [beq_eq_false_iff_ne.2 (fun h4 => c2 (e2.1 h4)), Bool.false_and]
        have h3 : (y.toNat + 1) * 256 ^ b.length ≤ x.toNat * 256 ^ b.length := Nat.mul_le_mul_right _ (by omega)
        rw [Nat.add_mul] at h3
        exact (decide_eq_false (by omega)).symm
theorem xor_128 (n : Nat) (h : n < 256) : Go.bits .xor .u8 (n : Int) 128 = (((n + 128) % 256 : Nat) : Int) := by
  have : ∀ m : Fin 256, Go.bits .xor .u8 (m.val : Int) 128 = (((m.val + 128) % 256 : Nat) : Int) := by decide +kernel
  exact this ⟨n, h⟩
/-- The bytes with the first digit turned. -/
def turned (a0 a1 : Int) : List Int := (wl a0 a1 8).set (0 : Int).toNat (Go.bits .xor .u8 (rd (wl a0 a1 8) 0) 128)
theorem turned_len (a0 a1 : Int) : (turned a0 a1).length = 16 := by unfold turned; rw [List.length_set, wl_len]
theorem wl_lit (a0 a1 : Int) (h0 : 0 ≤ a1) (h1 : a1 < 18446744073709551616) : ∃ H L : Nat, (H : Int) = IntKind.u64.wrap a0 ∧ (L : Int) = a1 ∧ H < 18446744073709551616 ∧ L < 18446744073709551616 ∧ wl a0 a1 8 = e8 H ++ e8 L := by
  have hx := u64_rng a0
  exact ⟨(IntKind.u64.wrap a0).toNat, a1.toNat, by omega, by omega, by omega, by omega, wl_e8 a0 a1 h0 h1⟩
theorem turned_lit (H L : Nat) (l : List Int) (hl : l = e8 H ++ e8 L) : l.set (0 : Int).toNat (Go.bits .xor .u8 (rd l 0) 128) = (((H / 72057594037927936 % 256 + 128) % 256 : Nat) : Int) :: (e8 H ++ e8 L).drop 1 := by
  subst hl
  rw [e8_lit H]
  have e : rd ([((H / 72057594037927936 % 256 : Nat) : Int), ((H / 281474976710656 % 256 : Nat) : Int), ((H / 1099511627776 % 256 : Nat) : Int), ((H / 4294967296 % 256 : Nat) : Int), ((H / 16777216 % 256 : Nat) : Int), ((H / 65536 % 256 : Nat) : Int), ((H / 256 % 256 : Nat) : Int), ((H % 256 : Nat) : Int)] ++ e8 L) 0 = ((H / 72057594037927936 % 256 : Nat) : Int) := rfl
  rw [e, xor_128 _ (by omega)]
  rfl
theorem vb_e8 (t L : Nat) (h : L < 18446744073709551616) (H : Nat) (hH : H < 18446744073709551616) : vb ((t : Int) :: (e8 H ++ e8 L).drop 1) = t * 1329227995784915872903807060280344576 + H % 72057594037927936 * 18446744073709551616 + L := by
  rw [e8_lit H, e8_lit L]
  simp only [List.cons_append, List.nil_append, List.drop_succ_cons, List.drop_zero, vb, List.length_cons, List.length_nil, Int.toNat_natCast, Nat.reduceAdd, Nat.reducePow, Nat.pow_zero]
  omega
theorem turned_by (a0 a1 : Int) (h0 : 0 ≤ a1) (h1 : a1 < 18446744073709551616) : ByB (turned a0 a1) := by
  obtain ⟨H, L, _, _, _, _, e⟩ := wl_lit a0 a1 h0 h1
  unfold turned
  rw [turned_lit H L _ e]
  intro x hx
  rcases List.mem_cons.1 hx with rfl | hx
  · omega
  · rcases List.mem_append.1 (List.mem_of_mem_drop hx) with h | h
    · exact e8_by _ x h
    · exact e8_by _ x h
theorem vb_turned (a0 a1 : Int) (h0 : 0 ≤ a1) (h1 : a1 < 18446744073709551616) (h2 : -9223372036854775808 ≤ a0) (h3 : a0 < 9223372036854775808) : (vb (turned a0 a1) : Int) = vl a0 a1 + 170141183460469231731687303715884105728 := by
  obtain ⟨H, L, eH, eL, hH, hL, e⟩ := wl_lit a0 a1 h0 h1
  unfold turned
  rw [turned_lit H L _ e, vb_e8 _ L hL H hH]
  rw [IntKind.wrap_u64] at eH
  unfold vl
  omega
theorem ordered_j4 (k : Nat) (v a0 a1 : Int) (near : Bool) (hk : 60 ≤ k) (hv : -9223372036854775808 ≤ v ∧ v < 9223372036854775808) (h0 : 0 ≤ a1) (h1 : a1 < 18446744073709551616) (hn : near = true → -4611686018427387904 < a0 ∧ a0 < 4611686018427387904) : rickyardlaw01_WideOrdered.j4 (k + 2) v near a0 a1 = some true := by
  rw [show k + 2 = (k + 1) + 1 from rfl, rickyardlaw01_WideOrdered.j4, alive01_f (k + 1) (by omega)]
  simp only [Option.bind_some, if_true]
  cases near with
  | false => rw [if_neg (by decide)]
  | true =>
    obtain ⟨n1, n2⟩ := hn rfl
    rw [if_pos rfl]
    by_cases c : v ≤ 0
    · rw [if_pos c]
    · rw [if_neg c, of_f v hv.1 hv.2]
      simp only [Option.bind_some]
      have hm := mk_vl a0 a1 h0 h1 (by omega) (by omega)
      have ha := add_mk_mk (vl a0 a1) v
      rw [hm.1, hm.2] at ha
      rw [ha]
      simp only [Option.bind_some]
      rw [cmp_f k _ _ _ _ (mkLo_nn _) (mkLo_lt _) h0 h1, vl_mk _ (by unfold vl; omega) (by unfold vl; omega), if_neg (by omega), if_neg (by omega)]
      rfl
theorem ordered_j3 (k : Nat) (v a0 a1 : Int) (hk : 60 ≤ k) (hv : -9223372036854775808 ≤ v ∧ v < 9223372036854775808) (h0 : 0 ≤ a1) (h1 : a1 < 18446744073709551616) : rickyardlaw01_WideOrdered.j3 (k + 3) v false a0 a1 = some true := by
  rw [show k + 3 = (k + 2) + 1 from rfl, rickyardlaw01_WideOrdered.j3, if_neg (by decide)]
  by_cases c : a0 > -4611686018427387904
  · rw [if_pos c]; exact ordered_j4 k v a0 a1 _ hk hv h0 h1 (fun h => ⟨c, of_decide_eq_true h⟩)
  · rw [if_neg c]; exact ordered_j4 k v a0 a1 false hk hv h0 h1 (fun h => by cases h)
theorem ordered_j2 (k : Nat) (v x9 a0 a1 b0 b1 : Int) (hk : 60 ≤ k) (hv : -9223372036854775808 ≤ v ∧ v < 9223372036854775808) (h0 : 0 ≤ a1) (h1 : a1 < 18446744073709551616) (h2 : 0 ≤ b1) (h3 : b1 < 18446744073709551616)
    (hx : x9 = if vl a0 a1 < vl b0 b1 then -1 else if vl a0 a1 = vl b0 b1 then 0 else 1) : rickyardlaw01_WideOrdered.j2 (k + 4) v x9 a0 a1 b0 b1 = some true := by
  rw [show k + 4 = (k + 3) + 1 from rfl, rickyardlaw01_WideOrdered.j2, show k + 3 = (k + 2) + 1 from rfl, cmp_f (k + 2) _ _ _ _ h0 h1 h2 h3, cmp_f (k + 2) _ _ _ _ h2 h3 h0 h1]
  simp only [Option.bind_some]
  rw [← hx, if_pos rfl]
  have e : ((if vl b0 b1 < vl a0 a1 then (-1 : Int) else if vl b0 b1 = vl a0 a1 then 0 else 1) != wrap64 (-x9)) = false := by
    rw [bne_eq_false_iff_eq, hx]
    rcases Int.lt_trichotomy (vl a0 a1) (vl b0 b1) with h | h | h
    · rw [if_neg (by omega), if_neg (by omega), if_pos h]; decide +kernel
    · rw [if_neg (by omega), if_pos h.symm, if_neg (by omega), if_pos h]; decide +kernel
    · rw [if_pos h, if_neg (by omega), if_neg (by omega)]; decide +kernel
  rw [e]
  exact ordered_j3 k v a0 a1 hk hv h0 h1
theorem WideOrdered_f (a0 a1 b0 b1 v : Int) (ha : -9223372036854775808 ≤ a0 ∧ a0 < 9223372036854775808) (h1 : 0 ≤ a1 ∧ a1 < 18446744073709551616) (hb : -9223372036854775808 ≤ b0 ∧ b0 < 9223372036854775808) (h2 : 0 ≤ b1 ∧ b1 < 18446744073709551616) (hv : -9223372036854775808 ≤ v ∧ v < 9223372036854775808) : rickyardlaw01_WideOrdered.f 70 a0 a1 b0 b1 v = some true := by
  unfold rickyardlaw01_WideOrdered.f wide_Write.f
  simp only [Option.bind_some]
  rw [if_pos (by rw [wl_len]; rfl), wl_len, show (((16 : Nat) : Int) != 16) = false from rfl, show (70 : Nat) = 69 + 1 from rfl, rickyardlaw01_WideOrdered.j0, if_neg (by decide), if_pos (by rw [wl_len]; decide), if_pos (by rw [wl_len]; decide)]
  simp only [Option.bind_some]
  have t1 := turned_by a0 a1 h1.1 h1.2
  have t2 := turned_by b0 b1 h2.1 h2.2
  have l1 := less_vb t1 t2 (by rw [turned_len, turned_len])
  have l2 := less_vb t2 t1 (by rw [turned_len, turned_len])
  have v1 := vb_turned a0 a1 h1.1 h1.2 ha.1 ha.2
  have v2 := vb_turned b0 b1 h2.1 h2.2 hb.1 hb.2
  show (if Op.bytesLess (strOfNums (turned a0 a1)).toList (strOfNums (turned b0 b1)).toList = true then rickyardlaw01_WideOrdered.j1 69 v (turned a0 a1) (turned b0 b1) (-1) a0 a1 b0 b1 else rickyardlaw01_WideOrdered.j1 69 v (turned a0 a1) (turned b0 b1) 0 a0 a1 b0 b1) = _
  have hj1 : ∀ x9 : Int, (x9 = if vl a0 a1 < vl b0 b1 then -1 else 0) → rickyardlaw01_WideOrdered.j1 69 v (turned a0 a1) (turned b0 b1) x9 a0 a1 b0 b1 = some true := by
    intro x9 hx
    rw [show (69 : Nat) = 68 + 1 from rfl, rickyardlaw01_WideOrdered.j1, l2]
    by_cases c : vl b0 b1 < vl a0 a1
    · rw [if_pos (decide_eq_true (by omega))]
      exact ordered_j2 64 v 1 a0 a1 b0 b1 (by decide) hv h1.1 h1.2 h2.1 h2.2 (by rw [if_neg (by omega), if_neg (by omega)])
    · rw [if_neg (by rw [decide_eq_true_eq]; omega)]
      refine ordered_j2 64 v x9 a0 a1 b0 b1 (by decide) hv h1.1 h1.2 h2.1 h2.2 ?_
      rw [hx]
      by_cases c2 : vl a0 a1 < vl b0 b1
      · rw [if_pos c2, if_pos c2]
      · rw [if_neg c2, if_neg c2, if_pos (by omega)]
  rw [l1]
  by_cases c : vl a0 a1 < vl b0 b1
  · rw [if_pos (decide_eq_true (by omega))]; exact hj1 _ (by rw [if_pos c])
  · rw [if_neg (by rw [decide_eq_true_eq]; omega)]; exact hj1 _ (by rw [if_neg c])
theorem WideOrdered_walk (a0 a1 b0 b1 v : Int) (w : World) (p0 : (Lit.int .i64 a0).wf = true) (p1 : (Lit.int .u64 a1).wf = true) (q0 : (Lit.int .i64 b0).wf = true) (q1 : (Lit.int .u64 b1).wf = true) (r0 : (Lit.int .i64 v).wf = true) :
    Calls Try.prog 9 #[.agg #[.int .i64 a0, .int .u64 a1], .agg #[.int .i64 b0, .int .u64 b1], .int .i64 v] w fun e w' => e = .returned (.bool true) ∧ Below w.heap.size w w' :=
  rickyardlaw01_WideOrdered.calls 70 a0 a1 b0 b1 v true w (WideOrdered_f a0 a1 b0 b1 v (of_wf_i64 p0) (of_wf_u64 p1) (of_wf_i64 q0) (of_wf_u64 q1) (of_wf_i64 r0)) rfl

end Go.Proofs.Ytjmobjjajnnodaa.Pure
