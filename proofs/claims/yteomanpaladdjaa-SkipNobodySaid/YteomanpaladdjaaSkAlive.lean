/- alive. No conditions. -/
import Derived.Test.YteomanpaladdjaaPx0
import Derived.Lib.SlBytesConst
import Derived.Test.YteomanpaladdjaaSkGet
import Derived.Lib.SmallJoins
namespace Go.Proofs.Yteomanpaladdjaa.P
open Go.RowKit Go.Proofs.YteomanpaladdjaaW.PrintWords Go.Proofs.YteomanpaladdjaaW.PrintLast Go.Proofs.YteomanpaladdjaaW.PrintMore
set_option linter.unusedVariables false
set_option linter.unusedSimpArgs false

/-- What a literal of bytes has laid is read, whatever mark it bears. -/
theorem C_lit_u8 (w : World) (l : List Int) (t : Nat) (fr : Nat × Nat) (hl : l.length ≤ 9223372036854775807) :
    Kd.C (Kd.int .u8) (w.alloc (.cells (l.map (Value.int .u8)).toArray t fr)) (some ⟨w.heap.size, 0, none⟩) l.length l := by
  refine ⟨rfl, hl, fun _ => ⟨_, rfl, fun j p hj => ⟨[.int .u8 p], rfl, rfl, fun i u hu => ?_⟩⟩⟩
  have hi : i = 0 ∧ u = .int .u8 p := by
    cases i with
    | zero => simp at hu; exact ⟨rfl, hu.symm⟩
    | succ i => simp at hu
  obtain ⟨rfl, rfl⟩ := hi
  have e1 : (⟨w.heap.size, 0, none⟩ : Addr).add (j * (Kd.int .u8).sz + 0) = ⟨w.heap.size, j, none⟩ := by
    show (⟨w.heap.size, 0, none⟩ : Addr).add (j * 1 + 0) = _
    simp [Addr.add, eq_comm]
  rw [e1, World.cell?_alloc_mark]
  simp [hj]

end Go.Proofs.Yteomanpaladdjaa.P
namespace Go.Proofs.Yteomanpaladdjaa.P
open Go.RowKit Go.Proofs.Yteomanpaladdjaa.Pure Go.Proofs.YteomanpaladdjaaW.PrintWords Go.Proofs.YteomanpaladdjaaW.PrintLast Go.Proofs.YteomanpaladdjaaW.PrintMore
set_option linter.unusedVariables false
set_option linter.unusedSimpArgs false
abbrev one5 : Ag := ⟨1, false, ⟨0, 5⟩, 5, 5⟩
abbrev two5 : Ag := ⟨2, false, ⟨0, 10⟩, 5, 5⟩
abbrev eB : En := ⟨[98], one5⟩
abbrev eA : En := ⟨[97], one5⟩
abbrev eB2 : En := ⟨[98], two5⟩
theorem al1 : skErr [] false eB 3 = 0 ∧ skNew [] false eB 3 = [eB] := ⟨by kernel_rfl, by kernel_rfl⟩
theorem al2 : skErr [eB] false eA 1 = 0 ∧ skNew [eB] false eA 1 = [eA, eB] := ⟨by kernel_rfl, by kernel_rfl⟩
theorem al3 : skErr [eA, eB] false eB 8 = 0 ∧ skNew [eA, eB] false eB 8 = [eA, eB2] := ⟨by kernel_rfl, by kernel_rfl⟩
theorem al4 : skErr [eA, eB2] false ⟨[], zAg⟩ 1 = 40 := by kernel_rfl
theorem ok5 : OkAg one5 := by unfold OkAg rngU rngI; decide
theorem bytA : Byt eA := by intro b hb; simp at hb; omega
theorem bytB : Byt eB := by intro b hb; simp at hb; omega
theorem good0 : GoodL [] := ⟨List.Pairwise.nil, (fun y h => by cases h), (fun y h => by cases h), (fun y h => by cases h), by decide⟩
theorem good1 : GoodL [eB] := al1.2 ▸ good0.put bytB ok5
theorem good2 : GoodL [eA, eB] := al2.2 ▸ good1.put bytA ok5
theorem good3 : GoodL [eA, eB2] := al3.2 ▸ good2.put bytB ok5
/-- A list of one's own, and a variable beside it. -/
def AL (w W : World) (g bA : Nat) (es : List En) : Prop := ∃ ok, SkS W w.heap.size ok g es false ∧ ¬ ok bA ∧ bA < W.heap.size ∧ W.heap[bA]? = some (.cells (agCs one5) 36 (0, 0)) ∧ Below w.heap.size w W
theorem AL.below {w W W' : World} {g bA : Nat} {es : List En} (h : AL w W g bA es) (hb : Below W.heap.size W W') : AL w W' g bA es := by
  obtain ⟨ok, h1, h2, h3, h4, h5⟩ := h
  exact ⟨ok, h1.below hb, h2, by have := hb.size; omega, blk_below h4 hb, h5.trans (hb.mono h5.size)⟩
theorem AL.put {w W : World} {g bA : Nat} {es : List En} (h : AL w W g bA es) (hg : GoodL es) (A : Option Addr) (c : Nat) (x : En) (height : Int) (hx : Kd.C (Kd.int .u8) W A x.f0.length x.f0) (hc : x.f0.length ≤ c) (hb : Byt x) (ho : OkAg x.f1) :
    Calls Try.prog 18 #[.pointer (some ⟨g, 0, none⟩), enV A c x, .int .i64 height] W fun e w' => e = .returned (.int .i64 (skErr es false x height)) ∧ AL w w' g bA (skNew es false x height) ∧ W.heap.size ≤ w'.heap.size := by
  obtain ⟨ok, h1, h2, h3, h4, h5⟩ := h
  refine (Put_S W w.heap.size _ g es false h1.bound hg A c x height hx hc hb ho).mono ?_
  rintro e w' ⟨rfl, hS, hs, hio, hf⟩
  refine ⟨rfl, ⟨_, hS, ?_, by omega, ?_, h5.trans (hio.below hs (fun k hk => hf k (by have := h5.size; omega) (fun hk2 => by have := hk2.2.1; omega)))⟩, hs⟩
  · rintro (hk | hk)
    · exact h2 hk.1
    · omega
  · exact (hf bA h3 (fun hk => h2 hk.1)).trans h4
theorem AL.cells {w W : World} {g bA : Nat} {es : List En} (h : AL w W g bA es) : (∀ o : Obj, (W.alloc o).cell? ⟨bA, 0, none⟩ = some (.int .u64 1)) ∧ (∀ o : Obj, (W.alloc o).cell? ⟨bA, 1, none⟩ = some (.bool false)) ∧ (∀ o : Obj, (W.alloc o).cell? ⟨bA, 2, none⟩ = some (.int .i64 0)) ∧ (∀ o : Obj, (W.alloc o).cell? ⟨bA, 3, none⟩ = some (.int .u64 5)) ∧ (∀ o : Obj, (W.alloc o).cell? ⟨bA, 4, none⟩ = some (.int .i64 5)) ∧ ∀ o : Obj, (W.alloc o).cell? ⟨bA, 5, none⟩ = some (.int .i64 5) := by
  obtain ⟨ok, h1, h2, h3, h4, h5⟩ := h
  exact ⟨fun o => (blk_cell (blk_alloc h4 o) 0).trans rfl, fun o => (blk_cell (blk_alloc h4 o) 1).trans rfl, fun o => (blk_cell (blk_alloc h4 o) 2).trans rfl, fun o => (blk_cell (blk_alloc h4 o) 3).trans rfl, fun o => (blk_cell (blk_alloc h4 o) 4).trans rfl, fun o => (blk_cell (blk_alloc h4 o) 5).trans rfl⟩
set_option maxHeartbeats 4000000 in
set_option maxRecDepth 100000 in
theorem alive_calls (w : World) : Calls Try.prog 9 #[] w fun e w' => e = .returned (.bool true) ∧ Below w.heap.size w w' := by
  have hu4 := Try.underlying38
  have hu5 := Try.underlying36
  have hu6 := Try.underlying34
  have kc := fun (w : World) (C : Array Value) (n c : Nat) => Lib.run_convert_bytes_const (P := Try.prog) w 23 5 C n c Try.underlying23 Try.underlying5
  have HN := Aside0.mk (New_S w)
  go_enter Try.func9, Try.ntmps9
  go_upto_region 5 with (first | (go_at_call 20; refine (HN.out).mono ?_; rintro e w1 ⟨rfl, hs, hb⟩; have HS := Aside0.mk hs; have HB := Aside0.mk hb; clear hs hb))
  obtain ⟨W1, hW1⟩ : ∃ W1, w1.alloc (.cells (agCs one5) 36) = W1 := ⟨_, rfl⟩
  obtain ⟨bA, hbA⟩ : ∃ b, w1.heap.size = b := ⟨_, rfl⟩
  obtain ⟨g, hg⟩ : ∃ b, w.heap.size = b := ⟨_, rfl⟩
  have v1 : Below w1.heap.size w1 W1 := by rw [← hW1]; exact below_alloc (Below.refl _ _) _
  have HA1 := Aside0.mk (show AL w W1 g bA [] from ⟨_, (show SkS W1 w.heap.size _ g [] false by rw [← hg]; exact HS.out.bound.below v1), by rintro ⟨_, _, hk⟩; omega, by rw [← hW1, World.size_alloc]; omega, by rw [← hW1, ← hbA]; exact blk_new w1 _, HB.out.trans (v1.mono HB.out.size)⟩)
  rw [hW1, hbA, hg]
  clear hW1 hbA v1 HS HB HN
  have hc1 := AL.cells HA1.out
  obtain ⟨a0, a1, a2, a3, a4, a5⟩ := hc1
  go_upto_region 6 with (first | (go_at_call 18; refine ((AL.put (AL.below HA1.out (below_alloc (Below.refl _ _) _)) good0 (some ⟨W1.heap.size, 0, none⟩) 1 ⟨[98], one5⟩ 3 (C_lit_u8 W1 [98] _ _ (by decide)) (by decide) bytB ok5)).mono ?_; rintro e W2 ⟨he, hs, hz⟩; rw [al1.1] at he; rw [al1.2] at hs; subst he; have HA2 := Aside0.mk hs; clear hs hz))
  clear a0 a1 a2 a3 a4 a5
  have hc2 := AL.cells HA2.out
  obtain ⟨a0, a1, a2, a3, a4, a5⟩ := hc2
  go_upto_region 7 with (first | (go_at_call 18; refine ((AL.put (AL.below HA2.out (below_alloc (Below.refl _ _) _)) good1 (some ⟨W2.heap.size, 0, none⟩) 1 ⟨[97], one5⟩ 1 (C_lit_u8 W2 [97] _ _ (by decide)) (by decide) bytA ok5)).mono ?_; rintro e W3 ⟨he, hs, hz⟩; rw [al2.1] at he; rw [al2.2] at hs; subst he; have HA3 := Aside0.mk hs; clear hs hz))
  clear a0 a1 a2 a3 a4 a5
  have hc3 := AL.cells HA3.out
  obtain ⟨a0, a1, a2, a3, a4, a5⟩ := hc3
  go_upto_region 8 with (first | (go_at_call 18; refine ((AL.put (AL.below HA3.out (below_alloc (Below.refl _ _) _)) good2 (some ⟨W3.heap.size, 0, none⟩) 1 ⟨[98], one5⟩ 8 (C_lit_u8 W3 [98] _ _ (by decide)) (by decide) bytB ok5)).mono ?_; rintro e W4 ⟨he, hs, hz⟩; rw [al3.1] at he; rw [al3.2] at hs; subst he; have HA4 := Aside0.mk hs; clear hs hz))
  clear a0 a1 a2 a3 a4 a5
  have HALL := Aside0.mk (show Calls Try.prog 12 #[.pointer (some ⟨g, 0, none⟩)] W4 fun e w' => ∃ A5 c5, e = .returned (.slice A5 2 c5) ∧ k38.C w' A5 2 [eA, eB2] ∧ Below W4.heap.size W4 w' from by
    obtain ⟨ok, h1, _⟩ := HA4.out
    refine (All_S h1 good3).mono ?_
    rintro e w' ⟨v, rfl, hs, hb⟩
    obtain ⟨A5, c5, rfl⟩ := Kd.S_slice hs
    exact ⟨A5, c5, rfl, (Kd.S_reads' hs).2.2, hb⟩)
  go_upto_region 9 with (first | (go_at_call 12; refine (HALL.out).mono ?_; rintro e W5 ⟨A5, c5, rfl, hC, hb⟩; have HC5 := Aside0.mk hC; have HA5 := Aside0.mk (AL.below HA4.out hb); clear hC hb))
  obtain ⟨ad, B0, d0, hA, k0, _, _, _, _, _, _, l0, r0⟩ := at_en (i := 0) (x := eA) HC5.out rfl
  obtain ⟨ad', B1, d1, hA', _, k1, _, _, _, _, _, l1, r1⟩ := at_en (i := 1) (x := eB2) HC5.out rfl
  subst hA
  obtain rfl : ad = ad' := Option.some.inj hA'
  have hst : (convert 23 9 (.slice B0 1 d0)).run Try.prog W5 = .ok (.string { data := #[97] }) W5 := Kd.C_string (P := Try.prog) Try.underlying23 Try.underlying5 Try.underlying9 r0
  rw [Nat.zero_mul] at k0
  have ez : ad.add 0 = ad := by simp [Addr.add]
  rw [ez] at k0
  have k1 : W5.cell? ⟨ad.block, ad.off + 8, none⟩ = some (.int .u64 2) := k1
  clear ez hA' l0 r0 l1 r1
  have HLEN := Aside0.mk (show ∀ W, AL w W g bA [eA, eB2] → Calls Try.prog 24 #[.pointer (some ⟨g, 0, none⟩)] W fun e w' => e = .returned (.int .i64 2) ∧ Below W.heap.size W w' from fun W h => by obtain ⟨ok, h1, _⟩ := h; exact Len_S h1)
  have HSIZE := Aside0.mk (show ∀ W, AL w W g bA [eA, eB2] → Calls Try.prog 13 #[.pointer (some ⟨g, 0, none⟩)] W fun e w' => e = .returned (.int .i64 84) ∧ Below W.heap.size W w' from fun W h => by obtain ⟨ok, h1, _⟩ := h; exact Size_S h1)
  have HPUT := Aside0.mk (show ∀ W, AL w W g bA [eA, eB2] → Calls Try.prog 18 #[.pointer (some ⟨g, 0, none⟩), enV none 0 ⟨[], zAg⟩, .int .i64 1] W fun e w' => e = .returned (.int .i64 40) ∧ Below w.heap.size w w' from fun W h => by
    refine (AL.put h good3 none 0 ⟨[], zAg⟩ 1 (Kd.R_reads' (Kd.R_nil (Kd.int .u8) 5 W 0 (fun _ => True))).2.2 (Nat.le_refl _) (fun b hb => by cases hb) (by unfold OkAg rngU rngI; decide)).mono ?_
    rintro e w' ⟨rfl, ⟨_, _, _, _, _, hb⟩, _⟩
    exact ⟨by rw [al4], hb⟩)
  go_wp2_with (first
    | (go_at_call 24; refine (HLEN.out _ HA5.out).mono ?_; rintro e W6 ⟨rfl, hb⟩; have HA6 := Aside0.mk (AL.below HA5.out hb); clear hb)
    | (go_at_call 13; refine (HSIZE.out _ HA6.out).mono ?_; rintro e W7 ⟨rfl, hb⟩; have HA7 := Aside0.mk (AL.below HA6.out hb); clear hb)
    | (go_at_call 18; refine (HPUT.out _ HA7.out).mono ?_; rintro e W8 ⟨rfl, hb⟩; have HB8 := Aside0.mk hb; clear hb))
  go_ret
  exact ⟨rfl, HB8.out⟩
end Go.Proofs.Yteomanpaladdjaa.P
