/- rickyardref09.Seek: the first pair from a key on, as the document tells it. Conditions: the bytes are bytes. -/
import Derived.Test.YticddiiigfkamaaBkRefRead
namespace Go.Proofs.Yticddiiigfkamaa.P
open Go.RowKit Go.Proofs.YticddiiigfkamaaW.PrintWords Go.Proofs.YticddiiigfkamaaW.PrintLast Go.Proofs.YticddiiigfkamaaW.PrintMore
set_option linter.unusedVariables false
set_option linter.unusedSimpArgs false

theorem refseek_at {W : World} {base : Nat} {ok : Nat → Prop} {v : Value} {l : List Pq} (h : Kd.S kB 47 W base ok v l) {i : Nat} {x : Pq} (hx : l[i]? = some x) :
    ∃ ad c B0 d0 B1 d1, v = .slice (some ad) l.length c ∧ W.cell? (ad.add (i * 2)) = some (.slice B0 x.f0.length d0) ∧ W.cell? ⟨(ad.add (i * 2)).block, (ad.add (i * 2)).off + 1, none⟩ = some (.slice B1 x.f1.length d1) ∧
      Kd.R (Kd.int .u8) 5 W base (fun k => some k ≠ (Value.slice B1 x.f1.length d1).ownBlock) (.slice B0 x.f0.length d0) x.f0 ∧ Kd.R (Kd.int .u8) 5 W base (fun k => some k ≠ (Value.slice B0 x.f0.length d0).ownBlock) (.slice B1 x.f1.length d1) x.f1 := by
  have hi := (List.getElem?_eq_some_iff.1 hx).1
  obtain ⟨g, cap, rfl, _⟩ := Kd.S_form h (by omega)
  obtain ⟨c, _, hM, hc⟩ := Kd.S_get h z47 (i : Int) (by omega) (by omega)
  obtain ⟨hM1, hap⟩ := hM
  rw [Int.toNat_natCast] at hM1 hc
  have hxe : l.getD i z47 = x := by rw [List.getD_eq_getElem?_getD, hx]; rfl
  rw [hxe] at hM1
  obtain ⟨v0, v1, rfl, h0, h1⟩ := k47_openM hM1
  obtain ⟨B0, d0, rfl⟩ := Kd.R_slice h0
  obtain ⟨B1, d1, rfl⟩ := Kd.R_slice h1
  have hap' := hap _ _ rfl
  refine ⟨⟨g, 0, none⟩, cap, B0, d0, B1, d1, rfl, hc 0 _ rfl, by rw [← add_field _ _ 1 (by omega)]; exact hc 1 _ rfl, ?_, ?_⟩
  · exact ⟨fun k hk he => hap' k he.symm hk.symm, h0.2⟩
  · exact ⟨fun k hk => hap' k hk, h1.2⟩
def geP (key : List Int) (p : Pq) : Bool := decide (0 ≤ cmpI p.f0 key)
def rickyardref09_Seek.f (l0 key : List Int) : Option (List Int × List Int × Bool × Int) :=
  match rickyardref09_Read.f l0 with
  | none => none
  | some (l, e) => some (match l.find? (geP key) with | some p => (p.f0, p.f1, true, e) | none => ([], [], false, e))
theorem find_at {α : Type} {p : α → Bool} : ∀ {l : List α} {i : Nat} {x : α}, l[i]? = some x → p x = true → (∀ y ∈ l.take i, p y = false) → l.find? p = some x
  | [], i, x, h, _, _ => by simp at h
  | a :: l, 0, x, h, hp, _ => by
    obtain rfl := Option.some.inj h
    rw [List.find?_cons_of_pos hp]
  | a :: l, i + 1, x, h, hp, hb => by
    rw [List.find?_cons_of_neg (by rw [hb a (by simp)]; decide)]
    exact find_at (by simpa using h) hp (fun y hy => hb y (by rw [List.take_succ_cons]; exact List.mem_cons_of_mem _ hy))
theorem find_none' {α : Type} {p : α → Bool} {l : List α} (h : ∀ y ∈ l, p y = false) : l.find? p = none := List.find?_eq_none.2 (fun y hy => by rw [h y hy]; decide)
theorem take_snoc' {α : Type} {p : α → Bool} {l : List α} {i : Nat} {x : α} (h : l[i]? = some x) (hp : p x = false) (hb : ∀ y ∈ l.take i, p y = false) : ∀ y ∈ l.take (i + 1), p y = false := by
  intro y hy
  rw [List.take_add_one, h] at hy
  rcases List.mem_append.1 hy with hy | hy
  · exact hb y hy
  · simp at hy; rw [hy]; exact hp
set_option maxHeartbeats 4000000 in
set_option maxRecDepth 100000 in
theorem rickyardref09_Seek.calls (A0 : Option Addr) (c0 : Nat) (l0 : List Int) (A1 : Option Addr) (c1 : Nat) (l1 : List Int) (r1 r2 : List Int) (r3 : Bool) (r4 : Int) (w : World) (hr0 : Kd.C (Kd.int .u8) w A0 l0.length l0) (hc0 : l0.length ≤ c0) (hr1 : Kd.C (Kd.int .u8) w A1 l1.length l1) (hc1 : l1.length ≤ c1) (h : rickyardref09_Seek.f l0 l1 = some (r1, r2, r3, r4)) :
    Calls Try.prog 21 #[.slice A0 l0.length c0, .slice A1 l1.length c1] w fun e w' => ∃ v0_ v1_ : Value, e = .returned (.tuple #[.agg #[v0_, v1_], .bool r3, .int .i64 r4]) ∧ Kd.R (Kd.int .u8) 5 w' w.heap.size (fun k_ => some k_ ≠ v1_.ownBlock) v0_ r1 ∧ Kd.R (Kd.int .u8) 5 w' w.heap.size (fun k_ => some k_ ≠ v0_.ownBlock) v1_ r2 ∧ Below w.heap.size w w' := by
  have hu := Try.underlying47
  unfold rickyardref09_Seek.f at h
  cases hrd : rickyardref09_Read.f l0 with
  | none => rw [hrd] at h; simp at h
  | some q =>
    obtain ⟨l, er⟩ := q
    rw [hrd] at h
    have h := Option.some.inj h
    have HRES := Aside0.mk h
    have HRD := Aside0.mk (fun W (hb : Below w.heap.size w W) => rickyardref09_Read.callsB A0 c0 l0 l er W (Kd.C_below hr0 hb) hc0 hrd)
    have HK := Aside0.mk (fun W (hb : Below w.heap.size w W) => Kd.C_below hr1 hb)
    clear h hrd hr0 hr1 hc0
    go_enter Try.func21, Try.ntmps21
    go_wp2_with (first | ((with_reducible refine gate_callee (f := 20) rfl ?_); refine goesL_ (some 12) rfl rfl Try.func20 (by kernel_rfl) rfl #[.slice A0 l0.length c0] rfl (by (try simp only [List.map_toArray, List.map_cons, List.map_nil]); first | done | rfl | (simp only [List.length_drop, List.length_take]; rfl)) ?_; refine (HRD.out _ ((Below.refl _ _).alloc (Nat.le_refl _) _)).mono ?_; rintro e w1 ⟨v1, rfl, hs, hb⟩; obtain ⟨A2, c2, rfl⟩ := Kd.S_slice hs; have BG := Aside0.mk (blk_below (blk_new w (.cells #[.slice none 0 0, .slice none 0 0] 47 (0, 0))) hb); have HB := Aside0.mk (((Below.refl w.heap.size w).alloc (Nat.le_refl _) _).trans (hb.mono (by simp))); have HS := Aside0.mk (show Kd.S kB 47 w1 (w.heap.size + 1) (fun _ => True) (.slice A2 l.length c2) l from by rw [World.size_alloc] at hs; exact hs); clear hb hs; refine ⟨_, rfl, ?_⟩))
    go_loopg [9] (l.length) (fun kq v9 w' => ∃ i : Nat, v9 = .int .i64 i ∧ Aside0 (i ≤ l.length ∧ kq = l.length - i ∧ (∀ y ∈ l.take i, geP l1 y = false)) ∧ Aside0 (Kd.S kB 47 w' (w.heap.size + 1) (fun _ => True) (.slice A2 l.length c2) l) ∧ Aside0 (w'.heap[w.heap.size]? = some (.cells #[.slice none 0 0, .slice none 0 0] 47 (0, 0))) ∧ Aside0 (Below w.heap.size w w'))
    case atStart => exact ⟨0, rfl, ⟨Nat.zero_le _, rfl, by simp⟩, HS, BG, HB⟩
    case round =>
      clear HS BG HB
      obtain ⟨i, rfl, HI, HS, BG, HB⟩ := hrel
      have k0 : wr.cell? ⟨w.heap.size, 0, none⟩ = some (.slice none 0 0) := (blk_cell BG.out 0).trans rfl
      have k1 : wr.cell? ⟨w.heap.size, 1, none⟩ = some (.slice none 0 0) := (blk_cell BG.out 1).trans rfl
      have f0 := blk_frozen BG.out 0
      have f1 := blk_frozen BG.out 1
      by_cases hlt : i < l.length
      · obtain ⟨x, hxx⟩ : ∃ x, l[i]? = some x := ⟨_, List.getElem?_eq_getElem hlt⟩
        obtain ⟨ad, c3, B0, d0, B1, d1, hv, m0, m1, R0, R1⟩ := refseek_at HS.out hxx
        injection hv with hv1 _ hv3
        subst hv1
        subst hv3
        have hC0 := (Kd.R_reads' R0).2.2
        have HX := Aside0.mk hxx
        have RR0 := Aside0.mk R0
        have RR1 := Aside0.mk R1
        have HLT := Aside0.mk hlt
        have hml := (Kd.S_reads' HS.out).2.2.2.1
        have e1_ : decide ((i : Int) < (l.length : Int)) = true := decide_eq_true (by omega)
        have e1b : decide (i < l.length) = true := decide_eq_true hlt
        have i1 : (0 ≤ (i : Int)) = True := eq_true (by omega)
        have i2 : ((i : Int) < (l.length : Int)) = True := eq_true (by omega)
        have i3 : (i < l.length) = True := eq_true hlt
        have hcv1 := fun n_ : Nat => Kd.C_string (P := Try.prog) (A := B0) (c := d0) Try.underlying23 Try.underlying5 Try.underlying9 (Kd.C_drewN hC0 n_)
        have hcv2 := fun n_ : Nat => Kd.C_string (P := Try.prog) (A := A1) (c := c1) Try.underlying23 Try.underlying5 Try.underlying9 (Kd.C_drewN (HK.out _ HB.out) n_)
        have hge := fun w_ => geq_run (P := Try.prog) 9 (strOfNums x.f0) (strOfNums l1) w_
        have hwr : wrap64 ((i : Int) + 1) = ((i + 1 : Nat) : Int) := by unfold wrap64; omega
        by_cases hc : cmpI x.f0 l1 < 0
        · have z1 : Op.bytesLess (strOfNums x.f0).toList (strOfNums l1).toList = true := by rw [str_lt]; exact decide_eq_true hc
          have HC := Aside0.mk (show geP l1 x = false from decide_eq_false (by omega))
          clear hlt hxx R0 R1 hC0 hml hc
          go_wp2
          repeat (go_quiet (fail); try go_wp2)
          go_roundg (l.length - (i + 1))
          case measure => have := HI.out.2.1; have := HLT.out; omega
          case rel => exact ⟨i + 1, by first | rfl | rw [hwr], ⟨HLT.out, rfl, take_snoc' HX.out HC.out HI.out.2.2⟩, ⟨by (with_reducible repeat (first | apply Kd.S_alloc | apply Kd.S_drewN | apply Kd.S_drew)); exact HS.out⟩, ⟨BG.out⟩, ⟨by repeat (first | exact HB.out | apply pw_below_drewN | apply below_drew1)⟩⟩
        · have z1 : Op.bytesLess (strOfNums x.f0).toList (strOfNums l1).toList = false := by rw [str_lt]; exact decide_eq_false hc
          have hf := find_at hxx (show geP l1 x = true from decide_eq_true (by omega)) HI.out.2.2
          have hres := HRES.out
          rw [hf] at hres
          obtain ⟨rfl, rfl, rfl, rfl⟩ : r1 = x.f0 ∧ r2 = x.f1 ∧ r3 = true ∧ r4 = er := by simp only [Prod.mk.injEq] at hres; exact ⟨hres.1.symm, hres.2.1.symm, hres.2.2.1.symm, hres.2.2.2.symm⟩
          clear hlt hxx R0 R1 hC0 hml hc hf hres
          go_wp2
          repeat (go_quiet (fail); try go_wp2)
          refine bodyPost_ret (results_ctt rfl _ _ w.heap.size 47 #[.slice B0 x.f0.length d0, .slice B1 x.f1.length d1] (0, 0) _ rfl (by refine blk_put (cs := #[.slice B0 x.f0.length d0, .slice none 0 0]) ?_ 1 _ rfl; refine blk_put (cs := #[.slice none 0 0, .slice none 0 0]) ?_ 0 _ rfl; exact BG.out) hu rfl (by kernel_rfl)) rfl ?_
          refine ⟨_, _, rfl, ?_, ?_, below_set (below_set (by repeat (first | exact HB.out | apply pw_below_drewN | apply below_drew1)) (Nat.le_refl _)) (Nat.le_refl _)⟩
          · exact Kd.R_lower (Kd.R_set (Kd.R_set (Kd.R_drewN RR0.out _) BG.out (by decide) 0 _) (blk_set BG.out 0 _) (by decide) 1 _) (Nat.le_succ _)
          · exact Kd.R_lower (Kd.R_set (Kd.R_set (Kd.R_drewN RR1.out _) BG.out (by decide) 0 _) (blk_set BG.out 0 _) (by decide) 1 _) (Nat.le_succ _)
      · have e1_ : decide ((i : Int) < (l.length : Int)) = false := decide_eq_false (by omega)
        have e1b : decide (i < l.length) = false := decide_eq_false hlt
        have hf := find_none' (l := l) (fun y hy => HI.out.2.2 y (by rw [List.take_of_length_le (by omega)]; exact hy))
        have hres := HRES.out
        rw [hf] at hres
        obtain ⟨rfl, rfl, rfl, rfl⟩ : r1 = [] ∧ r2 = [] ∧ r3 = false ∧ r4 = er := by simp only [Prod.mk.injEq] at hres; exact ⟨hres.1.symm, hres.2.1.symm, hres.2.2.1.symm, hres.2.2.2.symm⟩
        clear hlt hf hres
        go_wp2
        refine bodyPost_ret (results_ctt rfl _ _ w.heap.size 47 #[.slice none 0 0, .slice none 0 0] (0, 0) _ rfl (by refine blk_put (cs := #[.slice none 0 0, .slice none 0 0]) ?_ 1 _ rfl; refine blk_put (cs := #[.slice none 0 0, .slice none 0 0]) ?_ 0 _ rfl; exact BG.out) hu rfl (by kernel_rfl)) rfl ?_
        exact ⟨_, _, rfl, Kd.R_nil _ _ _ _ _, Kd.R_nil _ _ _ _ _, below_set (below_set HB.out (Nat.le_refl _)) (Nat.le_refl _)⟩
end Go.Proofs.Yticddiiigfkamaa.P
