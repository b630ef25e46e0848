/- What is known of facts and entries, in plain Lean, and agg.Right. (Turned from the texts of the seat merge.) No conditions. -/
import Derived.Test.YteomanpaladdjaaEMergeC
import Derived.Test.YteomanpaladdjaaPEq0
import Derived.Test.YteomanpaladdjaaPx0
import Derived.Test.YteomanpaladdjaaCmpOrd
import Derived.BigQuiet
namespace Go.Proofs.Yteomanpaladdjaa.P
open Go.RowKit Go.Proofs.YteomanpaladdjaaW.PrintWords Go.Proofs.YteomanpaladdjaaW.PrintLast Go.Proofs.YteomanpaladdjaaW.PrintMore
set_option linter.unusedVariables false
set_option linter.unusedSimpArgs false

theorem agg_Merge.calls (a0_0 : Int) (a0_1 : Bool) (a0_2 a0_3 a0_4 a0_5 : Int) (a1_0 : Int) (a1_1 : Bool) (a1_2 a1_3 a1_4 a1_5 : Int) (r1 : Int) (r2 : Bool) (r3 r4 r5 r6 : Int) (w : World) (h : agg_Merge.f a0_0 a0_1 a0_2 a0_3 a0_4 a0_5 a1_0 a1_1 a1_2 a1_3 a1_4 a1_5 = some (r1, r2, r3, r4, r5, r6)) :
    Calls Try.prog 15 #[.agg #[.int .u64 a0_0, .bool a0_1, .int .i64 a0_2, .int .u64 a0_3, .int .i64 a0_4, .int .i64 a0_5], .agg #[.int .u64 a1_0, .bool a1_1, .int .i64 a1_2, .int .u64 a1_3, .int .i64 a1_4, .int .i64 a1_5]] w fun e w' => e = .returned (.agg #[.int .u64 r1, .bool r2, .int .i64 r3, .int .u64 r4, .int .i64 r5, .int .i64 r6]) ∧ Below w.heap.size w w' := by
  unfold agg_Merge.f at h
  by_cases h0 : a0_0 = 0
  · rw [if_pos h0] at h
    cases h
    subst h0
    exact merge_zero0 _ _ _ _ _ _ _ _ _ _ _ w
  rw [if_neg h0] at h
  have e0 : (a0_0 == 0) = false := beq_eq_false_iff_ne.mpr h0
  by_cases h1 : a1_0 = 0
  · rw [if_pos h1] at h
    cases h
    subst h1
    exact merge_zero1 _ _ _ _ _ _ _ _ _ _ _ w e0
  rw [if_neg h1] at h
  have e1 : (a1_0 == 0) = false := beq_eq_false_iff_ne.mpr h1
  obtain ⟨⟨s1, s2⟩, hs, h⟩ := Option.bind_eq_some_iff.mp h
  have hm := Option.some.inj h
  have h3 : r3 = s1 ∧ r4 = s2 := by
    unfold mergeS at hm
    split at hm <;> (cases hm; exact ⟨rfl, rfl⟩)
  obtain ⟨rfl, rfl⟩ := h3
  cases a0_1 with
  | false => exact merge_plain _ _ _ _ _ _ _ _ _ _ _ _ _ _ _ _ _ w e0 e1 hs hm
  | true => exact merge_over _ _ _ _ _ _ _ _ _ _ _ _ _ _ _ _ _ w e0 e1 hs hm

end Go.Proofs.Yteomanpaladdjaa.P
namespace Go.Proofs.Yteomanpaladdjaa.P
open Go.RowKit Go.Proofs.YteomanpaladdjaaW.PrintWords Go.Proofs.YteomanpaladdjaaW.PrintLast Go.Proofs.YteomanpaladdjaaW.PrintMore
set_option linter.unusedVariables false
set_option linter.unusedSimpArgs false
section
variable {P : Program} {ops : Array Oper} {Q : Exit → Act → World → Prop} {md : Region.Mode} {S : World → Prop} {ds : List Nat}
/-- An operation that yields in every world, taken first. -/
theorem wpAnyLast_pure {i : Nat} {oi : Oper} {v : Value} {fuel : Nat} {listed : Array Bool} {a : Act} {w : World} (hi : ops[i]? = some oi)
    (hs : Region.noSelect ops = true) (hf : Region.free md ops listed i = true) (hr : (Region.ready md ops listed).contains i = true)
    (hQ : ∀ c a w, Q (.panic c) (a.put oi.dst v) w → Q (.panic c) a w) (hy : Yields P ops oi v a)
    (h : wpAnyLast P md ops Q S ds fuel (listed.setIfInBounds i true) (a.put oi.dst v) w) : wpAnyLast P md ops Q S ds (fuel + 1) listed a w :=
  wpAnyLast_any hi (Region.noSelect_spec hs) hQ fuel listed a w (Region.free_spec hi hf) (by simpa using hr) hy h
end
abbrev Ag := S36
abbrev agV (x : Ag) : Value := .agg #[.int .u64 x.f0, .bool x.f1, .int .i64 x.f2.f0, .int .u64 x.f2.f1, .int .i64 x.f3, .int .i64 x.f4]
/-- Is this known of facts? -/
def rightB (x : Ag) : Bool := if x.f0 = 0 then (!x.f1 && (((x.f2.f0 == 0) && (x.f2.f1 == 0)) && ((x.f3 == 0) && (x.f4 == 0)))) else (decide (x.f3 ≤ x.f4) && (!x.f1 || (x.f0 == 18446744073709551615)))
set_option maxHeartbeats 1000000 in
theorem aggRight_calls (x : Ag) (w : World) : Calls Try.prog 32 #[agV x] w fun e w' => e = .returned (.bool (rightB x)) ∧ Below w.heap.size w w' := by
  have hu := Try.underlying36
  obtain ⟨n, o, ⟨hi, lo⟩, mn, mx⟩ := x
  unfold rightB agV
  simp only []
  have HB := Aside0.mk ((Below.refl w.heap.size w).alloc (Nat.le_refl _) (.cells #[.int .u64 n, .bool o, .int .i64 hi, .int .u64 lo, .int .i64 mn, .int .i64 mx] 36))
  by_cases h : n = 0
  · subst h
    have he := fun d w => eqA36 d w 0 0 o false hi 0 lo 0 mn 0 mx 0
    go_enter Try.func32, Try.ntmps32
    go_wp2
    go_ret
    refine ⟨?_, HB.out⟩
    cases o <;> simp
  · have d1 : (n == 0) = false := beq_eq_false_iff_ne.2 h
    by_cases h2 : mn ≤ mx
    · have d2 : decide (mn ≤ mx) = true := decide_eq_true h2
      cases o with
      | true =>
        go_enter Try.func32, Try.ntmps32
        go_wp2
        go_ret
        exact ⟨by simp [h, h2], HB.out⟩
      | false =>
        go_enter Try.func32, Try.ntmps32
        go_wp2
        go_ret
        exact ⟨by simp [h, h2], HB.out⟩
    · have d2 : decide (mn ≤ mx) = false := decide_eq_false h2
      go_enter Try.func32, Try.ntmps32
      go_wp2
      go_ret
      exact ⟨by simp [h, h2], HB.out⟩
abbrev En := S38
abbrev enV (A : Option Addr) (c : Nat) (x : En) : Value := .agg #[.slice A x.f0.length c, .int .u64 x.f1.f0, .bool x.f1.f1, .int .i64 x.f1.f2.f0, .int .u64 x.f1.f2.f1, .int .i64 x.f1.f3, .int .i64 x.f1.f4]
theorem rdEn {l : List En} {i : Nat} {p : En} (h : l[i]? = some p) : rd_T38 l (i : Int) = p := by simp [rd_T38, List.getD_eq_getElem?_getD, h]
/-- An entry in a row that is read. -/
theorem at_en {w : World} {A : Option Addr} {l : List En} (h : Kd.C k38 w A l.length l) {i : Nat} {x : En} (hx : l[i]? = some x) :
    ∃ ad B d, A = some ad ∧ w.cell? (ad.add (i * 7)) = some (.slice B x.f0.length d) ∧ w.cell? ⟨(ad.add (i * 7)).block, (ad.add (i * 7)).off + 1, none⟩ = some (.int .u64 x.f1.f0) ∧ w.cell? ⟨(ad.add (i * 7)).block, (ad.add (i * 7)).off + 2, none⟩ = some (.bool x.f1.f1) ∧ w.cell? ⟨(ad.add (i * 7)).block, (ad.add (i * 7)).off + 3, none⟩ = some (.int .i64 x.f1.f2.f0) ∧ w.cell? ⟨(ad.add (i * 7)).block, (ad.add (i * 7)).off + 4, none⟩ = some (.int .u64 x.f1.f2.f1) ∧ w.cell? ⟨(ad.add (i * 7)).block, (ad.add (i * 7)).off + 5, none⟩ = some (.int .i64 x.f1.f3) ∧ w.cell? ⟨(ad.add (i * 7)).block, (ad.add (i * 7)).off + 6, none⟩ = some (.int .i64 x.f1.f4) ∧ x.f0.length ≤ d ∧ Kd.C (Kd.int .u8) w B x.f0.length x.f0 := by
  have hi := (List.getElem?_eq_some_iff.1 hx).1
  obtain ⟨ad, B, d, e, h0, h1, h2, h3, h4, h5, h6, hl, hC⟩ := at_T38 h (i : Int) (by omega) (by omega)
  rw [rdEn hx] at h0 h1 h2 h3 h4 h5 h6 hl hC
  rw [Int.toNat_natCast] at h0 h1 h2 h3 h4 h5 h6
  exact ⟨ad, B, d, e, h0, h1, h2, h3, h4, h5, h6, hl, hC⟩
theorem add_mk (b n : Nat) : (⟨b, 0, none⟩ : Addr).add n = ⟨b, n, none⟩ := by simp [Addr.add, eq_comm]
def mgA (a b : Ag) : Ag := match agg_Merge.f a.f0 a.f1 a.f2.f0 a.f2.f1 a.f3 a.f4 b.f0 b.f1 b.f2.f0 b.f2.f1 b.f3 b.f4 with
  | some (r1, r2, r3, r4, r5, r6) => ⟨r1, r2, ⟨r3, r4⟩, r5, r6⟩
  | none => a
def okW (a : Ag) : Prop := 0 ≤ a.f2.f1 ∧ a.f2.f1 < 18446744073709551616
instance (a : Ag) : Decidable (okW a) := by unfold okW; infer_instance
theorem mgA_some {a b : Ag} (ha : okW a) (hb : okW b) : ∃ r1 r2 r3 r4 r5 r6, agg_Merge.f a.f0 a.f1 a.f2.f0 a.f2.f1 a.f3 a.f4 b.f0 b.f1 b.f2.f0 b.f2.f1 b.f3 b.f4 = some (r1, r2, r3, r4, r5, r6) ∧ mgA a b = ⟨r1, r2, ⟨r3, r4⟩, r5, r6⟩ ∧ okW (mgA a b) := by
  obtain ⟨r, hr⟩ : ∃ r, agg_Merge.f a.f0 a.f1 a.f2.f0 a.f2.f1 a.f3 a.f4 b.f0 b.f1 b.f2.f0 b.f2.f1 b.f3 b.f4 = some r ∧ 0 ≤ r.2.2.2.1 ∧ r.2.2.2.1 < 18446744073709551616 := by
    unfold agg_Merge.f
    by_cases h0 : a.f0 = 0
    · rw [if_pos h0]; exact ⟨_, rfl, hb⟩
    · rw [if_neg h0]
      by_cases h1 : b.f0 = 0
      · rw [if_pos h1]; exact ⟨_, rfl, ha⟩
      · rw [if_neg h1]
        unfold wide_Add.f
        rw [if_pos ⟨ha.1, ha.2, hb.1, hb.2⟩]
        refine ⟨_, rfl, ?_⟩
        simp only [mergeS]
        have : 0 ≤ addLo a.f2.f1 b.f2.f1 ∧ addLo a.f2.f1 b.f2.f1 < 18446744073709551616 := by unfold addLo sumLo; omega
        split <;> exact this
  obtain ⟨r1, r2, r3, r4, r5, r6⟩ := r
  have e : mgA a b = ⟨r1, r2, ⟨r3, r4⟩, r5, r6⟩ := by unfold mgA; rw [hr.1]
  exact ⟨r1, r2, r3, r4, r5, r6, hr.1, e, by rw [e]; exact hr.2⟩
def Byt (x : En) : Prop := ∀ b ∈ x.f0, 0 ≤ b ∧ b < 256
def Rises (l : List En) : Prop := l.Pairwise (fun x y => cmpI x.f0 y.f0 < 0)
theorem rises_of_head : ∀ {x y : En} {l : List En}, cmpI x.f0 y.f0 < 0 → Rises (y :: l) → Rises (x :: y :: l) := by
  intro x y l h hr
  refine List.pairwise_cons.2 ⟨fun z hz => ?_, hr⟩
  rcases List.mem_cons.1 hz with rfl | hz
  · exact h
  · exact cmpI_trans h ((List.pairwise_cons.1 hr).1 z hz)
def gk (k : List Int) (l : List En) : List Ag := (l.filter (fun x => decide (x.f0 = k))).map (·.f1)
def fold1 : List Ag → Option Ag
  | [] => none
  | a :: l => some (l.foldl mgA a)
theorem gk_nil (k : List Int) : gk k [] = [] := rfl
theorem gk_cons (k : List Int) (x : En) (l : List En) : gk k (x :: l) = if x.f0 = k then x.f1 :: gk k l else gk k l := by
  unfold gk
  rw [List.filter_cons]
  by_cases h : x.f0 = k
  · rw [if_pos (decide_eq_true h), if_pos h]; rfl
  · rw [if_neg (by simpa using h), if_neg h]
theorem gk_append (k : List Int) (l m : List En) : gk k (l ++ m) = gk k l ++ gk k m := by unfold gk; rw [List.filter_append, List.map_append]
theorem gk_none {k : List Int} {l : List En} (h : ∀ x ∈ l, x.f0 ≠ k) : gk k l = [] := by
  unfold gk
  rw [List.filter_eq_nil_iff.2 (fun x hx => by simpa using h x hx)]; rfl
theorem fold1_snoc (l : List Ag) (a : Ag) (h : l ≠ []) : fold1 (l ++ [a]) = (fold1 l).map (fun b => mgA b a) := by
  cases l with
  | nil => exact absurd rfl h
  | cons b l => simp [fold1]
theorem fold1_app (l m : List Ag) : fold1 (l ++ m) = match fold1 l with | none => fold1 m | some a => some (m.foldl mgA a) := by
  cases l with
  | nil => rfl
  | cons b l => simp [fold1]
/-- Entries of rows that rise: none twice. -/
theorem gk_rises {k : List Int} : ∀ {l : List En}, Rises l → gk k l = [] ∨ ∃ x ∈ l, x.f0 = k ∧ gk k l = [x.f1]
  | [], _ => .inl rfl
  | x :: l, h => by
    obtain ⟨h1, h2⟩ := List.pairwise_cons.1 h
    rw [gk_cons]
    by_cases hx : x.f0 = k
    · refine .inr ⟨x, List.mem_cons_self .., hx, ?_⟩
      rw [if_pos hx, gk_none (l := l) (fun y hy e => ?_)]
      have := h1 y hy
      rw [hx, e, cmpI_self] at this
      omega
    · rw [if_neg hx]
      rcases gk_rises (k := k) h2 with h3 | ⟨y, hy, h4⟩
      · exact .inl h3
      · exact .inr ⟨y, List.mem_cons_of_mem _ hy, h4⟩
theorem gk_mem {l : List En} {x : En} (h : Rises l) (hx : x ∈ l) : gk x.f0 l = [x.f1] := by
  rcases gk_rises (k := x.f0) h with h1 | ⟨y, hy, he, h1⟩
  · unfold gk at h1
    have h2 := List.map_eq_nil_iff.1 h1
    exact absurd (List.mem_filter.2 ⟨hx, decide_eq_true rfl⟩) (by rw [h2]; exact fun h => by cases h)
  · unfold gk at h1
    have hm : x.f1 ∈ (l.filter (fun z => decide (z.f0 = x.f0))).map (·.f1) := List.mem_map.2 ⟨x, List.mem_filter.2 ⟨hx, decide_eq_true rfl⟩, rfl⟩
    rw [h1] at hm
    unfold gk
    rw [h1, List.mem_singleton.1 hm]
/-- Rows that rise and know the same are the same. -/
theorem rises_ext : ∀ {l m : List En}, Rises l → Rises m → (∀ x ∈ l, Byt x) → (∀ x ∈ m, Byt x) → (∀ k, fold1 (gk k l) = fold1 (gk k m)) → l = m
  | [], [], _, _, _, _, _ => rfl
  | [], y :: m, _, hm, _, _, h => by
    have := h y.f0
    rw [gk_mem hm (List.mem_cons_self ..)] at this
    cases this
  | x :: l, [], hl, _, _, _, h => by
    have := h x.f0
    rw [gk_mem hl (List.mem_cons_self ..)] at this
    cases this
  | x :: l, y :: m, hl, hm, bl, bm, h => by
    obtain ⟨l1, l2⟩ := List.pairwise_cons.1 hl
    obtain ⟨m1, m2⟩ := List.pairwise_cons.1 hm
    have hxy : x.f0 = y.f0 := by
      have h1 := h x.f0
      rw [gk_mem hl (List.mem_cons_self ..)] at h1
      have h2 := h y.f0
      rw [gk_mem hm (List.mem_cons_self ..)] at h2
      by_cases he : x.f0 = y.f0
      · exact he
      · exfalso
        have hne : cmpI x.f0 y.f0 ≠ 0 := fun h0 => he ((cmpI_zero (bl x (List.mem_cons_self ..)) (bm y (List.mem_cons_self ..))).1 h0)
        have ha := cmpI_anti x.f0 y.f0
        by_cases hlt : cmpI x.f0 y.f0 < 0
        · rw [gk_none (l := y :: m) (fun z hz e => ?_)] at h1
          · cases h1
          · rcases List.mem_cons.1 hz with rfl | hz
            · exact he e.symm
            · have := cmpI_trans hlt (m1 z hz)
              rw [e, cmpI_self] at this; omega
        · rw [gk_none (l := x :: l) (fun z hz e => ?_)] at h2
          · cases h2
          · rcases List.mem_cons.1 hz with rfl | hz
            · exact he e
            · have := cmpI_trans (show cmpI y.f0 x.f0 < 0 by omega) (l1 z hz)
              rw [e, cmpI_self] at this; omega
    have h1 := h x.f0
    rw [gk_mem hl (List.mem_cons_self ..), hxy, gk_mem hm (List.mem_cons_self ..)] at h1
    have hf : x.f1 = y.f1 := Option.some.inj h1
    have e : x = y := by cases x; cases y; simp only at hxy hf; rw [hxy, hf]
    subst e
    refine congrArg _ (rises_ext l2 m2 (fun z hz => bl z (List.mem_cons_of_mem _ hz)) (fun z hz => bm z (List.mem_cons_of_mem _ hz)) (fun k => ?_))
    by_cases hk : x.f0 = k
    · rw [gk_none (fun z hz e => ?_), gk_none (fun z hz e => ?_)]
      · have := m1 z hz
        rw [hk, e, cmpI_self] at this; omega
      · have := l1 z hz
        rw [hk, e, cmpI_self] at this; omega
    · have := h k
      rwa [gk_cons, gk_cons, if_neg hk, if_neg hk] at this
theorem fold1_congr {a b c : List Ag} (h : fold1 a = fold1 b) : fold1 (a ++ c) = fold1 (b ++ c) := by rw [fold1_app, fold1_app, h]
end Go.Proofs.Yteomanpaladdjaa.P
