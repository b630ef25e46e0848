/- The document's Seek. No conditions. -/
import Derived.Test.YteomanpaladdjaaSkRefPut
namespace Go.Proofs.Yteomanpaladdjaa.P
open Go.RowKit Go.Proofs.Yteomanpaladdjaa.Pure Go.Proofs.YteomanpaladdjaaW.PrintWords Go.Proofs.YteomanpaladdjaaW.PrintLast Go.Proofs.YteomanpaladdjaaW.PrintMore
set_option linter.unusedVariables false
set_option linter.unusedSimpArgs false
theorem drop_at {es : List En} {p j : Nat} {x : En} (h : es[p + j]? = some x) : (es.drop p).take (j + 1) = (es.drop p).take j ++ [x] := by
  rw [List.take_add_one, List.getElem?_drop, h]; rfl
set_option maxHeartbeats 2000000 in
set_option maxRecDepth 100000 in
theorem RSeek_calls (W : World) (g : Nat) (A : Option Addr) (c : Nat) (es : List En) (fr : Bool) (hG : W.heap[g]? = some (.cells #[.slice A es.length c, .bool fr] 51 (0, 0))) (hC : Kd.C k38 W A es.length es) (hl : es.length ≤ 5000) (hr : Rises es)
    (B : Option Addr) (d : Nat) (key : List Int) (hk : Kd.C (Kd.int .u8) W B key.length key) (most : Int) :
    Calls Try.prog 23 #[.pointer (some ⟨g, 0, none⟩), .slice B key.length d, .int .i64 most] W fun e w' => ∃ v, e = .returned v ∧ Kd.N k38 38 w' W.heap.size (fun _ => True) v (seekE es key most) ∧ Below W.heap.size W w' := by
  have hu := Try.underlying51
  have hu4 := Try.underlying38
  have hu5 := Try.underlying36
  obtain ⟨X, Y, hXY, hX, hY, hF⟩ := es_split key es hr
  obtain ⟨p, hp⟩ : ∃ p, X.length = p := ⟨_, rfl⟩
  obtain ⟨en, hen⟩ : ∃ n, es.length = n := ⟨_, rfl⟩
  obtain ⟨mn, hmn⟩ : ∃ n, most.toNat = n := ⟨_, rfl⟩
  have HPE := Aside0.mk (show p ≤ en ∧ en ≤ 5000 from ⟨by rw [← hen, hXY, List.length_append]; omega, by omega⟩)
  have HSE := Aside0.mk (show seekE es key most = (es.drop p).take mn by
    have e2 : es.drop p = Y := by rw [hXY, ← hp]; exact List.drop_left ..
    unfold seekE
    rw [hF, hmn, e2]
    split
    · have : mn = 0 := by omega
      rw [this, List.take_zero]
    · rfl)
  have HMN := Aside0.mk hmn
  have HEN := Aside0.mk hen
  have HC := Aside0.mk hC
  have HPL := Aside0.mk (Place_calls W g A c es fr hG hC hl B d key hk X Y hXY hX hY)
  rw [hp] at HPL
  rw [hen] at hG
  have HG := Aside0.mk hG
  obtain ⟨R, hR⟩ : ∃ r, seekE es key most = r := ⟨_, rfl⟩
  rw [hR] at HSE ⊢
  clear hG hC hk hXY hX hY hp hen hl hr hF hmn hR
  go_enter Try.func23, Try.ntmps23
  go_wp2_with (first | (go_at_call 36; refine (HPL.out).mono ?_; rintro e V ⟨rfl, hb⟩; have HWV := Aside0.mk hb; clear hb))
  go_loopg [7, 8] (en + 1) (fun kq v7 v8 w' => ∃ (i j : Nat) (A7 : Option Addr) (c7 : Nat), v7 = .slice A7 j c7 ∧ v8 = .int .i64 (i : Int) ∧ Aside0 (i = p + j ∧ i ≤ en ∧ j ≤ mn ∧ kq = en + 1 - j) ∧ Aside0 (((es.drop p).take j).length = j ∧ Kd.N k38 38 w' W.heap.size (fun _ => True) (.slice A7 j c7) ((es.drop p).take j)) ∧ Aside0 (Below W.heap.size W w'))
  case atStart => exact ⟨p, 0, none, 0, rfl, rfl, ⟨rfl, HPE.out.1, Nat.zero_le _, rfl⟩, ⟨by rw [List.take_zero]; rfl, by rw [List.take_zero]; exact Kd.N_nil _ _ _ _ _⟩, HWV⟩
  case round =>
    obtain ⟨i, j, A7, c7, rfl, rfl, HI, HJ, HB⟩ := hrel
    have g0 : wr.cell? ⟨g, 0, none⟩ = some (.slice A en c) := (blk_cell (blk_below HG.out HB.out) 0).trans rfl
    have HNV := Aside0.mk HJ.out.2
    by_cases hi : i < en
    · have d3 : decide ((i : Int) < (en : Int)) = true := decide_eq_true (by omega)
      have d3b : decide (i < en) = true := decide_eq_true hi
      by_cases hj : j < mn
      · have d6 : decide ((j : Int) < most) = true := decide_eq_true (by have := HMN.out; omega)
        have i1 : (0 ≤ (i : Int)) = True := eq_true (by omega)
        have i2 : ((i : Int) < (en : Int)) = True := eq_true (by omega)
        have i3 : (i < en) = True := eq_true hi
        obtain ⟨x, hx⟩ : ∃ x, es[i]? = some x := ⟨_, List.getElem?_eq_getElem (by rw [HEN.out]; exact hi)⟩
        obtain ⟨ad, Bx, dx, hA, k0, k1, k2, k3, k4, k5, k6, lx, cx⟩ := at_en HC.out hx
        subst hA
        have k0 := cell_bl' k0 HB.out
        have k1 := cell_bl' k1 HB.out
        have k2 := cell_bl' k2 HB.out
        have k3 := cell_bl' k3 HB.out
        have k4 := cell_bl' k4 HB.out
        have k5 := cell_bl' k5 HB.out
        have k6 := cell_bl' k6 HB.out
        have hw1 : wrap64 ((i : Int) + 1) = ((i + 1 : Nat) : Int) := w64_up (by have := HPE.out; omega)
        have HW1 := Aside0.mk hw1
        have HXF := Aside0.mk (show x.f0.length ≤ dx ∧ Kd.F (Kd.int .u8) W (fun k => k < W.heap.size) Bx x.f0.length x.f0 from ⟨lx, Kd.C_F (Kd.heap_int _) cx⟩)
        have HNX := Aside0.mk (show (es.drop p).take (j + 1) = (es.drop p).take j ++ [x] from drop_at (by rw [← HI.out.1]; exact hx))
        have HIL := Aside0.mk (And.intro hi hj)
        clear hx lx cx hw1 hi hj
        go_wp2_with (first
          | ((with_reducible refine gate_builtin (b := .append) (xs := #[.tmp 27, .tmp 35]) rfl ?_); at_builtin; refine Kd.N_append k38 (w0 := W) W.heap.size rfl (.tmp 27) (.tmp 35) 22 38 (.agg #[.slice none 0 0, .int .u64 0, .bool false, .int .i64 0, .int .u64 0, .int .i64 0, .int .i64 0]) 72 rfl Try.underlying22 infoE rfl (by decide) (by omega) (.slice A7 j c7) ((es.drop p).take j) x _ (fun _ => True) (fun k => k < W.heap.size) rfl rfl ?hp ?hokp ?hf ?HO ?HB ?hbase ?hl ?_; (case hp => exact k38_mkF _ _ x HXF.out.1 (Kd.F_below HXF.out.2 HB.out)); (case hokp => exact fun k hk => ⟨trivial, fun e_ => by have h_ := Kd.N_base HNV.out k e_.symm; omega⟩); (case hf => exact fun k hk => trivial); (case HO => exact HNV.out); (case HB => exact HB.out); (case hbase => exact HB.out.size); (case hl => rw [HJ.out.1]; have := HPE.out; have := HI.out; omega); intro v4 w4 r1 r2 r3 r4; obtain ⟨A4, c4, hv4⟩ := Kd.N_slice r1; rw [List.length_append, HJ.out.1, List.length_singleton] at hv4; subst hv4; have HN4 := Aside0.mk r1; have HB4 := Aside0.mk r2; clear r1 r2 r3 r4))
        go_roundg (en + 1 - (j + 1))
        case measure => have := HI.out; have := HIL.out; omega
        case rel => exact ⟨i + 1, j + 1, A4, c4, rfl, by first | rfl | rw [HW1.out], ⟨by rw [HI.out.1, Nat.add_assoc], HIL.out.1, HIL.out.2, rfl⟩, ⟨by rw [HNX.out, List.length_append, HJ.out.1]; rfl, by rw [HNX.out]; exact HN4.out⟩, HB4⟩
      · have d6 : decide ((j : Int) < most) = false := decide_eq_false (by have := HMN.out; omega)
        have HQ := Aside0.mk (show (es.drop p).take j = R by rw [HSE.out, show j = mn by have := HI.out; omega])
        clear hi hj
        go_wp2
        go_ret
        exact ⟨_, rfl, by rw [← HQ.out]; exact HNV.out, HB.out⟩
    · have d3 : decide ((i : Int) < (en : Int)) = false := decide_eq_false (by omega)
      have d3b : decide (i < en) = false := decide_eq_false hi
      have HQ := Aside0.mk (show (es.drop p).take j = R by
        have h1 := HI.out
        rw [HSE.out, List.take_of_length_le (by rw [List.length_drop, HEN.out]; omega), List.take_of_length_le (by rw [List.length_drop, HEN.out]; omega)])
      clear hi
      go_wp2
      go_ret
      exact ⟨_, rfl, by rw [← HQ.out]; exact HNV.out, HB.out⟩
end Go.Proofs.Yteomanpaladdjaa.P
