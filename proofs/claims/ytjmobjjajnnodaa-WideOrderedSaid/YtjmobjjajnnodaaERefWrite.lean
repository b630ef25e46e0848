/- The reference's bytes of a number. Guard: the low half is within 64 digits. -/
import Derived.Test.YtjmobjjajnnodaaERef01B
namespace Go.Proofs.Ytjmobjjajnnodaa.P
open Go.RowKit Go.Proofs.YtjmobjjajnnodaaW.PrintWords Go.Proofs.YtjmobjjajnnodaaW.PrintLast Go.Proofs.YtjmobjjajnnodaaW.PrintMore
set_option linter.unusedVariables false
set_option linter.unusedSimpArgs false

/-- The sixteen bytes, the greatest first. -/
def refBytes (n k : Nat) : List Int := (List.range k).map fun j => (dg n (15 - j) : Int)
theorem refBytes_succ (n k : Nat) : refBytes n (k + 1) = refBytes n k ++ [(dg n (15 - k) : Int)] := by simp [refBytes, List.range_succ]
theorem refBytes_len (n k : Nat) : (refBytes n k).length = k := by simp [refBytes]
def rickyardref01_Write.f (a0 a1 : Int) : Option (List Int) := if 0 ≤ a1 ∧ a1 < 18446744073709551616 then some (refBytes (big a0 a1) 16) else none

set_option maxHeartbeats 2000000 in
set_option maxRecDepth 100000 in
theorem rickyardref01_Write.calls (a0 a1 : Int) (r : List Int) (w : World) (h : rickyardref01_Write.f a0 a1 = some r) :
    Calls Try.prog 30 #[.agg #[.int .i64 a0, .int .u64 a1]] w fun e w' => ∃ v0_ : Value, e = .returned v0_ ∧ Kd.R (Kd.int .u8) 5 w' w.heap.size (fun _ => True) v0_ r ∧ Below w.heap.size w w' := by
  unfold rickyardref01_Write.f at h
  by_cases hc : 0 ≤ a1 ∧ a1 < 18446744073709551616
  case neg => rw [if_neg hc] at h; cases h
  rw [if_pos hc] at h
  obtain rfl := Option.some.inj h
  have cA := fun W => digits_calls a0 a1 W hc.1 hc.2
  obtain ⟨x, hx⟩ : ∃ x, big a0 a1 = x := ⟨_, rfl⟩
  rw [hx] at cA ⊢
  have hu := Try.underlying24
  have hu2 := Try.underlying48
  have HB0 := Aside0.mk (Below.refl w.heap.size w)
  have CA := Aside0.mk cA
  have sz1 := cells16_len (dg x)
  clear hx cA hc h
  go_enter Try.func30, Try.ntmps30
  go_wp2_with (first
    | ((with_reducible refine gate_callee (f := 31) rfl ?_); refine goesL_ (some 7) rfl rfl Try.func31 (by kernel_rfl) rfl #[.agg #[.int .i64 a0, .int .u64 a1]] rfl (by (try simp only [List.map_toArray, List.map_cons, List.map_nil]); first | done | rfl | (simp only [List.length_drop, List.length_take]; rfl)) ?_; refine (CA.out _).mono ?_; rintro e w2 ⟨rfl, hb⟩; have HB2 := Aside0.mk ((below_alloc HB0.out _).trans (hb.mono (by simp))); clear hb; refine ⟨_, rfl, ?_⟩)
    | ((with_reducible refine gate_store (t := 48) (p := 3) (v := .tmp 7) rfl ?_); refine wpList_store_rowTo rfl 48 (.tmp 3) (.tmp 7) rfl rfl w2.heap.size (cells16 (dg x)).toArray rfl rfl _ _ (blk_new w2 _) (by rw [List.size_toArray, sz1]; kernel_rfl) (by rw [List.size_toArray, List.size_toArray, sz1]; rfl) (cells16_one (dg x)) ?_))
  obtain ⟨V, hV⟩ : ∃ V, (w2.alloc (.cells #[.int .i64 0, .int .i64 0, .int .i64 0, .int .i64 0, .int .i64 0, .int .i64 0, .int .i64 0, .int .i64 0, .int .i64 0, .int .i64 0, .int .i64 0, .int .i64 0, .int .i64 0, .int .i64 0, .int .i64 0, .int .i64 0] 48)).setRow w2.heap.size (cells16 (dg x)).toArray = V := ⟨_, rfl⟩
  have hg := setRow_heap _ w2.heap.size _ (cells16 (dg x)).toArray _ _ (blk_new w2 (.cells #[.int .i64 0, .int .i64 0, .int .i64 0, .int .i64 0, .int .i64 0, .int .i64 0, .int .i64 0, .int .i64 0, .int .i64 0, .int .i64 0, .int .i64 0, .int .i64 0, .int .i64 0, .int .i64 0, .int .i64 0, .int .i64 0] 48))
  have hbv := below_setRow (below_alloc HB2.out (.cells #[.int .i64 0, .int .i64 0, .int .i64 0, .int .i64 0, .int .i64 0, .int .i64 0, .int .i64 0, .int .i64 0, .int .i64 0, .int .i64 0, .int .i64 0, .int .i64 0, .int .i64 0, .int .i64 0, .int .i64 0, .int .i64 0] 48)) HB2.out.size (cells16 (dg x)).toArray
  rw [hV] at hg hbv ⊢
  obtain ⟨g, hgg⟩ : ∃ g, w2.heap.size = g := ⟨_, rfl⟩
  have hgw : w.heap.size ≤ g := by rw [← hgg]; exact HB2.out.size
  rw [hgg] at hg ⊢
  have HG := Aside0.mk hg
  have HBV := Aside0.mk hbv
  have HGW := Aside0.mk hgw
  clear hV hg hbv hgg hgw sz1
  go_loopg [4, 5] 16 (fun kq v4 v5 w' => ∃ (k : Nat) (iv : Int), v5 = .int .i64 iv ∧ Aside0 (iv = 15 - (k : Int) ∧ k ≤ 16 ∧ kq = 16 - k) ∧ Aside0 (Kd.R (Kd.int .u8) 5 w' w.heap.size (fun _ => True) v4 (refBytes x k)) ∧ Aside0 (w'.heap[g]? = some (.cells (cells16 (dg x)).toArray 48 (0, 0))) ∧ Aside0 (Below w.heap.size w w'))
  case atStart => exact ⟨0, 15, rfl, ⟨rfl, by decide, rfl⟩, ⟨Kd.R_nil _ _ _ _ _⟩, HG, HBV⟩
  case round =>
    obtain ⟨k, iv, rfl, HI, HO, HG, HB⟩ := hrel
    by_cases h16 : k < 16
    · have hI := HI.out
      obtain ⟨d, hd⟩ : ∃ d : Int, d = (dg x (15 - k) : Int) := ⟨_, rfl⟩
      have b1 := dg_lt x (15 - k)
      have c1 : decide (0 ≤ iv) = true := decide_eq_true (by omega)
      have c2 : (0 ≤ iv) = True := eq_true (by omega)
      have c3 : (iv < 16) = True := eq_true (by omega)
      have c4 : iv.toNat = 15 - k := by omega
      have w1 : d % 256 = d := by omega
      have w2 : IntKind.u8.wrap d = d := by rw [IntKind.wrap_u8]; omega
      have w3 : wrap64 (iv - 1) = 15 - ((k + 1 : Nat) : Int) := by unfold wrap64; omega
      have hcz_0 : wr.cell? ⟨g, 15 - k, none⟩ = some (.int .i64 d) := by rw [hd]; exact (blk_cell HG.out (15 - k)).trans (cells16_at _ (by omega))
      have H16 := Aside0.mk h16
      have HD := Aside0.mk hd
      have W3 := Aside0.mk w3
      clear hI b1 hd h16 w3
      go_wp2_with (first
        | ((with_reducible refine gate_builtin (b := .append) (xs := #[.tmp 12, .tmp 17]) rfl ?_); at_builtin; refine Kd.R_append (Kd.int .u8) (w0 := w) w.heap.size rfl (.tmp 12) (.tmp 17) 42 5 (.int .u8 0) 1 rfl Try.underlying42 info_u8 rfl (by decide) (by omega) _ (refBytes x k) d [.int .u8 d] (fun _ => True) (fun _ => False) rfl rfl ?hp (fun _ h => h.elim) (fun _ _ => trivial) ?HO ?HB ?hb ?hl ?_; (case hp => rfl); (case HO => exact HO.out); (case HB => exact HB.out); (case hb => exact HB.out.size); (case hl => have := H16.out; rw [refBytes_len]; omega); intro v1 w1 ho hb hgr hat; have HO1 := Aside0.mk ho; have HB1 := Aside0.mk hb; have HG1 := Aside0.mk (blk_grown HG.out hgr (Kd.R_ne HO.out HG.out (by decide))); clear ho hb hgr hat))
      go_roundg (16 - (k + 1))
      case measure => have := HI.out.2.2; have := H16.out; omega
      case rel => exact ⟨k + 1, _, rfl, ⟨W3.out, H16.out, rfl⟩, ⟨by rw [refBytes_succ, ← HD.out]; exact HO1.out⟩, HG1, HB1⟩
    · have c1 : decide (0 ≤ iv) = false := decide_eq_false (by have := HI.out; omega)
      have hk16 : k = 16 := by have := HI.out; omega
      have HK := Aside0.mk hk16
      clear h16 hk16
      go_wp2
      go_ret
      exact ⟨_, rfl, by have h_ := HO.out; rw [HK.out] at h_; exact h_, HB.out⟩

end Go.Proofs.Ytjmobjjajnnodaa.P
