/- block.Seek: the first pair of a row whose key is not less. No conditions. -/
import Derived.Test.YticddiiigfkamaaBkSeekA
import Derived.Test.YticddiiigfkamaaBkPureR
namespace Go.Proofs.Yticddiiigfkamaa.P
open Go.RowKit Go.Proofs.YticddiiigfkamaaW.PrintWords Go.Proofs.YticddiiigfkamaaW.PrintLast Go.Proofs.YticddiiigfkamaaW.PrintMore
set_option linter.unusedVariables false
set_option linter.unusedSimpArgs false

/-- A row's pair, its key and value apart. -/
theorem seek_at {W : World} {base : Nat} {ok : Nat → Prop} {v : Value} {l : List Pr} (h : Kd.S kA 39 W base ok v l) {i : Nat} {x : Pr} (hx : l[i]? = some x) :
    ∃ ad c B0 d0 B1 d1, v = .slice (some ad) l.length c ∧ W.cell? (ad.add (i * 2)) = some (.slice B0 x.f0.length d0) ∧ W.cell? ⟨(ad.add (i * 2)).block, (ad.add (i * 2)).off + 1, none⟩ = some (.slice B1 x.f1.length d1) ∧
      Kd.R (Kd.int .u8) 5 W base (fun k => some k ≠ (Value.slice B1 x.f1.length d1).ownBlock) (.slice B0 x.f0.length d0) x.f0 ∧ Kd.R (Kd.int .u8) 5 W base (fun k => some k ≠ (Value.slice B0 x.f0.length d0).ownBlock) (.slice B1 x.f1.length d1) x.f1 := by
  have hi := (List.getElem?_eq_some_iff.1 hx).1
  obtain ⟨g, cap, rfl, _⟩ := Kd.S_form h (by omega)
  obtain ⟨c, _, hM, hc⟩ := Kd.S_get h z39 (i : Int) (by omega) (by omega)
  obtain ⟨hM1, hap⟩ := hM
  rw [Int.toNat_natCast] at hM1 hc
  have hxe : l.getD i z39 = x := by rw [List.getD_eq_getElem?_getD, hx]; rfl
  rw [hxe] at hM1
  obtain ⟨v0, v1, rfl, h0, h1⟩ := k39_openM hM1
  obtain ⟨B0, d0, rfl⟩ := Kd.R_slice h0
  obtain ⟨B1, d1, rfl⟩ := Kd.R_slice h1
  have hap' := hap _ _ rfl
  refine ⟨⟨g, 0, none⟩, cap, B0, d0, B1, d1, rfl, hc 0 _ rfl, by rw [← add_field _ _ 1 (by omega)]; exact hc 1 _ rfl, ?_, ?_⟩
  · exact ⟨fun k hk he => hap' k he.symm hk.symm, h0.2⟩
  · exact ⟨fun k hk => hap' k hk, h1.2⟩
theorem read_rises {b : List Int} {m : List Pr} (h : block_Read.f b = some (m, 0)) : risesP m = true ∧ m.length ≤ 4096 := by
  have hB : ∀ x ∈ b, 0 ≤ x ∧ x < 256 := by
    unfold block_Read.f at h
    by_cases hB : ∀ x ∈ b, 0 ≤ x ∧ x < 256
    · exact hB
    · rw [if_neg hB] at h; simp at h
  rw [read_f _ hB] at h
  have h := Option.some.inj h
  split at h
  · next h2 =>
    simp only [Prod.mk.injEq, and_true] at h
    obtain ⟨l, e1, _, _, e4, _, e6⟩ := Pure.enc_rdAll _ b 0 [] [] m hB (by omega) (Prod.ext h h2)
    simp only [List.nil_append] at e1
    subst e1
    exact ⟨e6, by omega⟩
  · simp at h
def block_Seek.f (l0 key : List Int) : Option (List Int × List Int × Bool × Int) :=
  match block_Read.f l0 with
  | none => none
  | some (l, e) => some (if e = 0 then (match l[nLess l key]? with | some p => (p.f0, p.f1, true, 0) | none => ([], [], false, 0)) else ([], [], false, e))
set_option maxHeartbeats 4000000 in
set_option maxRecDepth 100000 in
theorem block_Seek.calls (A0 : Option Addr) (c0 : Nat) (l0 : List Int) (A1 : Option Addr) (c1 : Nat) (l1 : List Int) (r1 r2 : List Int) (r3 : Bool) (r4 : Int) (w : World) (hr0 : Kd.C (Kd.int .u8) w A0 l0.length l0) (hc0 : l0.length ≤ c0) (hr1 : Kd.C (Kd.int .u8) w A1 l1.length l1) (hc1 : l1.length ≤ c1) (h : block_Seek.f l0 l1 = some (r1, r2, r3, r4)) :
    Calls Try.prog 19 #[.slice A0 l0.length c0, .slice A1 l1.length c1] w fun e w' => ∃ v0_ v1_ : Value, e = .returned (.tuple #[.agg #[v0_, v1_], .bool r3, .int .i64 r4]) ∧ Kd.R (Kd.int .u8) 5 w' w.heap.size (fun k_ => some k_ ≠ v1_.ownBlock) v0_ r1 ∧ Kd.R (Kd.int .u8) 5 w' w.heap.size (fun k_ => some k_ ≠ v0_.ownBlock) v1_ r2 ∧ Below w.heap.size w w' := by
  have hu := Try.underlying39
  unfold block_Seek.f at h
  cases hrd : block_Read.f l0 with
  | none => rw [hrd] at h; simp at h
  | some q =>
    obtain ⟨l, er⟩ := q
    rw [hrd] at h
    have h := Option.some.inj h
    have HRD := Aside0.mk (fun W (hb : Below w.heap.size w W) => block_Read.callsA A0 c0 l0 l er W (Kd.C_below hr0 hb) hc0 hrd)
    by_cases he : er = 0
    case neg =>
      rw [if_neg he] at h
      obtain ⟨rfl, rfl, rfl, rfl⟩ : r1 = [] ∧ r2 = [] ∧ r3 = false ∧ r4 = er := by simp only [Prod.mk.injEq] at h; exact ⟨h.1.symm, h.2.1.symm, h.2.2.1.symm, h.2.2.2.symm⟩
      have d1 : (r4 == 0) = false := beq_eq_false_iff_ne.mpr he
      have d2 : (r4 != 0) = true := bne_iff_ne.mpr he
      clear h hrd he hr0 hr1 hc0
      go_enter Try.func19, Try.ntmps19
      go_wp2_with (first | ((with_reducible refine gate_callee (f := 16) rfl ?_); refine goesL_ (some 13) rfl rfl Try.func16 (by kernel_rfl) rfl #[.slice A0 l0.length c0] rfl (by (try simp only [List.map_toArray, List.map_cons, List.map_nil]); first | done | rfl | (simp only [List.length_drop, List.length_take]; rfl)) ?_; refine (HRD.out _ ((Below.refl _ _).alloc (Nat.le_refl _) _)).mono ?_; rintro e w1 ⟨v1, rfl, hs, hb⟩; obtain ⟨A2, c2, rfl⟩ := Kd.S_slice hs; have bg := blk_below (blk_new w (.cells #[.slice none 0 0, .slice none 0 0] 39 (0, 0))) hb; have k0 : w1.cell? ⟨w.heap.size, 0, none⟩ = some (.slice none 0 0) := (blk_cell bg 0).trans rfl; have k1 : w1.cell? ⟨w.heap.size, 1, none⟩ = some (.slice none 0 0) := (blk_cell bg 1).trans rfl; have f0 := blk_frozen bg 0; have f1 := blk_frozen bg 1; have BG := Aside0.mk bg; have HB := Aside0.mk (((Below.refl w.heap.size w).alloc (Nat.le_refl _) _).trans (hb.mono (by simp))); have HS := Aside0.mk hs; clear bg hb hs; refine ⟨_, rfl, ?_⟩))
      refine bodyPost_ret (results_ctt rfl _ _ w.heap.size 39 #[.slice none 0 0, .slice none 0 0] (0, 0) _ rfl (by refine blk_put (cs := #[.slice none 0 0, .slice none 0 0]) ?_ 1 _ rfl; refine blk_put (cs := #[.slice none 0 0, .slice none 0 0]) ?_ 0 _ rfl; exact BG.out) hu rfl (by kernel_rfl)) rfl ?_
      refine ⟨_, _, rfl, Kd.R_nil _ _ _ _ _, Kd.R_nil _ _ _ _ _, below_set (below_set HB.out (Nat.le_refl _)) (Nat.le_refl _)⟩
    subst he
    rw [if_pos rfl] at h
    obtain ⟨hri, hln⟩ := read_rises hrd
    have HSE := Aside0.mk (fun (A : Option Addr) (c : Nat) W (hb : Below w.heap.size w W) (hr : Kd.C k39 W A l.length l) => search_calls A c l A1 c1 l1 W hr (by omega) hri (Kd.C_below hr1 hb) hc1)
    cases hx : l[nLess l l1]? with
    | none =>
      rw [hx] at h
      obtain ⟨rfl, rfl, rfl, rfl⟩ : r1 = [] ∧ r2 = [] ∧ r3 = false ∧ r4 = 0 := by simp only [Prod.mk.injEq] at h; exact ⟨h.1.symm, h.2.1.symm, h.2.2.1.symm, h.2.2.2.symm⟩
      have hnn : nLess l l1 = l.length := Nat.le_antisymm (List.countP_le_length) (List.getElem?_eq_none_iff.1 hx)
      rw [hnn] at HSE
      clear h hrd hx hnn hri hr0 hr1 hc0
      go_enter Try.func19, Try.ntmps19
      go_wp2_with (first
        | ((with_reducible refine gate_callee (f := 26) rfl ?_); refine goesL_ (some 23) rfl rfl Try.func26 (by kernel_rfl) rfl #[.slice A2 l.length c2, .slice A1 l1.length c1, .func (.func 27) #[] #[]] rfl (by (try simp only [List.map_toArray, List.map_cons, List.map_nil]); first | done | rfl | (simp only [List.length_drop, List.length_take]; rfl)) ?_; refine (HSE.out A2 c2 _ HB.out (Kd.S_reads' (S_of_A HS.out)).2.2).mono ?_; rintro e w2 ⟨rfl, hb⟩; have bg := blk_below BG.out hb; have k0 : w2.cell? ⟨w.heap.size, 0, none⟩ = some (.slice none 0 0) := (blk_cell bg 0).trans rfl; have k1 : w2.cell? ⟨w.heap.size, 1, none⟩ = some (.slice none 0 0) := (blk_cell bg 1).trans rfl; have f0 := blk_frozen bg 0; have f1 := blk_frozen bg 1; have hb2 := HB.out.trans (hb.mono HB.out.size); clear BG HB; have BG := Aside0.mk bg; have HB := Aside0.mk hb2; clear bg hb hb2; refine ⟨_, rfl, ?_⟩)
        | ((with_reducible refine gate_callee (f := 16) rfl ?_); refine goesL_ (some 13) rfl rfl Try.func16 (by kernel_rfl) rfl #[.slice A0 l0.length c0] rfl (by (try simp only [List.map_toArray, List.map_cons, List.map_nil]); first | done | rfl | (simp only [List.length_drop, List.length_take]; rfl)) ?_; refine (HRD.out _ ((Below.refl _ _).alloc (Nat.le_refl _) _)).mono ?_; rintro e w1 ⟨v1, rfl, hs, hb⟩; obtain ⟨A2, c2, rfl⟩ := Kd.S_slice hs; have bg := blk_below (blk_new w (.cells #[.slice none 0 0, .slice none 0 0] 39 (0, 0))) hb; have k0 : w1.cell? ⟨w.heap.size, 0, none⟩ = some (.slice none 0 0) := (blk_cell bg 0).trans rfl; have k1 : w1.cell? ⟨w.heap.size, 1, none⟩ = some (.slice none 0 0) := (blk_cell bg 1).trans rfl; have f0 := blk_frozen bg 0; have f1 := blk_frozen bg 1; have BG := Aside0.mk bg; have HB := Aside0.mk (((Below.refl w.heap.size w).alloc (Nat.le_refl _) _).trans (hb.mono (by simp))); have HS := Aside0.mk hs; clear bg hb hs; refine ⟨_, rfl, ?_⟩))
      refine bodyPost_ret (results_ctt rfl _ _ w.heap.size 39 #[.slice none 0 0, .slice none 0 0] (0, 0) _ rfl (by refine blk_put (cs := #[.slice none 0 0, .slice none 0 0]) ?_ 1 _ rfl; refine blk_put (cs := #[.slice none 0 0, .slice none 0 0]) ?_ 0 _ rfl; exact BG.out) hu rfl (by kernel_rfl)) rfl ?_
      refine ⟨_, _, rfl, Kd.R_nil _ _ _ _ _, Kd.R_nil _ _ _ _ _, below_set (below_set HB.out (Nat.le_refl _)) (Nat.le_refl _)⟩
    | some x =>
      rw [hx] at h
      obtain ⟨rfl, rfl, rfl, rfl⟩ : r1 = x.f0 ∧ r2 = x.f1 ∧ r3 = true ∧ r4 = 0 := by simp only [Prod.mk.injEq] at h; exact ⟨h.1.symm, h.2.1.symm, h.2.2.1.symm, h.2.2.2.symm⟩
      obtain ⟨i, hi⟩ : ∃ i, nLess l l1 = i := ⟨_, rfl⟩
      rw [hi] at HSE hx
      have hil := (List.getElem?_eq_some_iff.1 hx).1
      have e1 : ((i : Int) == (l.length : Int)) = false := beq_eq_false_iff_ne.mpr (by omega)
      have i1 : (0 ≤ (i : Int)) = True := eq_true (by omega)
      have i2 : ((i : Int) < (l.length : Int)) = True := eq_true (by omega)
      have i3 : (i < l.length) = True := eq_true hil
      have e2 : (i = l.length) = False := eq_false (by omega)
      have HX := Aside0.mk hx
      have HSA := Aside0.mk (fun (W : World) (v : Value) (hs : Kd.S kA 39 W (w.heap.size + 1) (fun _ => True) v l) => seek_at hs hx)
      clear h hrd hx hi hil hri hr0 hr1 hc0
      go_enter Try.func19, Try.ntmps19
      go_wp2_with (first
        | ((with_reducible refine gate_callee (f := 26) rfl ?_); refine goesL_ (some 23) rfl rfl Try.func26 (by kernel_rfl) rfl #[.slice A2 l.length c2, .slice A1 l1.length c1, .func (.func 27) #[] #[]] rfl (by (try simp only [List.map_toArray, List.map_cons, List.map_nil]); first | done | rfl | (simp only [List.length_drop, List.length_take]; rfl)) ?_; refine (HSE.out A2 c2 _ HB.out (Kd.S_reads' (S_of_A HS.out)).2.2).mono ?_; rintro e w2 ⟨rfl, hb⟩; have bg := blk_below BG.out hb; have k0 : w2.cell? ⟨w.heap.size, 0, none⟩ = some (.slice none 0 0) := (blk_cell bg 0).trans rfl; have k1 : w2.cell? ⟨w.heap.size, 1, none⟩ = some (.slice none 0 0) := (blk_cell bg 1).trans rfl; have f0 := blk_frozen bg 0; have f1 := blk_frozen bg 1; have hb2 := HB.out.trans (hb.mono HB.out.size); have hs2 := Kd.S_below HS.out hb; clear BG HB; have BG := Aside0.mk bg; have HB := Aside0.mk hb2; obtain ⟨ad, c3, B0, d0, B1, d1, hv, m0, m1, R0, R1⟩ := HSA.out _ _ (by have h_ := hs2; rw [World.size_alloc] at h_; exact h_); injection hv with hv1 _ hv3; subst hv1; subst hv3; have RR0 := Aside0.mk R0; have RR1 := Aside0.mk R1; clear bg hb hb2 hs2 R0 R1; refine ⟨_, rfl, ?_⟩)
        | ((with_reducible refine gate_callee (f := 16) rfl ?_); refine goesL_ (some 13) rfl rfl Try.func16 (by kernel_rfl) rfl #[.slice A0 l0.length c0] rfl (by (try simp only [List.map_toArray, List.map_cons, List.map_nil]); first | done | rfl | (simp only [List.length_drop, List.length_take]; rfl)) ?_; refine (HRD.out _ ((Below.refl _ _).alloc (Nat.le_refl _) _)).mono ?_; rintro e w1 ⟨v1, rfl, hs, hb⟩; obtain ⟨A2, c2, rfl⟩ := Kd.S_slice hs; have bg := blk_below (blk_new w (.cells #[.slice none 0 0, .slice none 0 0] 39 (0, 0))) hb; have k0 : w1.cell? ⟨w.heap.size, 0, none⟩ = some (.slice none 0 0) := (blk_cell bg 0).trans rfl; have k1 : w1.cell? ⟨w.heap.size, 1, none⟩ = some (.slice none 0 0) := (blk_cell bg 1).trans rfl; have f0 := blk_frozen bg 0; have f1 := blk_frozen bg 1; have BG := Aside0.mk bg; have HB := Aside0.mk (((Below.refl w.heap.size w).alloc (Nat.le_refl _) _).trans (hb.mono (by simp))); have HS := Aside0.mk hs; clear bg hb hs; refine ⟨_, rfl, ?_⟩))
      refine bodyPost_ret (results_ctt rfl _ _ w.heap.size 39 #[.slice B0 x.f0.length d0, .slice B1 x.f1.length d1] (0, 0) _ rfl (by refine blk_put (cs := #[.slice B0 x.f0.length d0, .slice none 0 0]) ?_ 1 _ rfl; refine blk_put (cs := #[.slice none 0 0, .slice none 0 0]) ?_ 0 _ rfl; exact BG.out) hu rfl (by kernel_rfl)) rfl ?_
      refine ⟨_, _, rfl, ?_, ?_, below_set (below_set HB.out (Nat.le_refl _)) (Nat.le_refl _)⟩
      · exact Kd.R_lower (Kd.R_set (Kd.R_set RR0.out BG.out (by decide) 0 _) (blk_set BG.out 0 _) (by decide) 1 _) (Nat.le_succ _)
      · exact Kd.R_lower (Kd.R_set (Kd.R_set RR1.out BG.out (by decide) 0 _) (blk_set BG.out 0 _) (by decide) 1 _) (Nat.le_succ _)
end Go.Proofs.Yticddiiigfkamaa.P
