/- A heap as the rows that it stands for; Next is one step on the rows. No conditions. -/
import Derived.Test.YtihdomhiiolojaaEMergeC
import Derived.Test.YtihdomhiiolojaaMgNext
namespace Go.Proofs.Ytihdomhiiolojaa.P
open Go.RowKit Go.Proofs.YtihdomhiiolojaaW.PrintWords Go.Proofs.YtihdomhiiolojaaW.PrintLast Go.Proofs.YtihdomhiiolojaaW.PrintMore
set_option linter.unusedVariables false
set_option linter.unusedSimpArgs false

theorem agg_Merge.calls (a0_0 : Int) (a0_1 : Bool) (a0_2 a0_3 a0_4 a0_5 : Int) (a1_0 : Int) (a1_1 : Bool) (a1_2 a1_3 a1_4 a1_5 : Int) (r1 : Int) (r2 : Bool) (r3 r4 r5 r6 : Int) (w : World) (h : agg_Merge.f a0_0 a0_1 a0_2 a0_3 a0_4 a0_5 a1_0 a1_1 a1_2 a1_3 a1_4 a1_5 = some (r1, r2, r3, r4, r5, r6)) :
    Calls Try.prog 19 #[.agg #[.int .u64 a0_0, .bool a0_1, .int .i64 a0_2, .int .u64 a0_3, .int .i64 a0_4, .int .i64 a0_5], .agg #[.int .u64 a1_0, .bool a1_1, .int .i64 a1_2, .int .u64 a1_3, .int .i64 a1_4, .int .i64 a1_5]] w fun e w' => e = .returned (.agg #[.int .u64 r1, .bool r2, .int .i64 r3, .int .u64 r4, .int .i64 r5, .int .i64 r6]) ∧ Below w.heap.size w w' := by
  unfold agg_Merge.f at h
  by_cases h0 : a0_0 = 0
  · rw [if_pos h0] at h
    cases h
    subst h0
    exact merge_zero0 _ _ _ _ _ _ _ _ _ _ _ w
  rw [if_neg h0] at h
  have e0 : (a0_0 == 0) = false := beq_eq_false_iff_ne.mpr h0
  by_cases h1 : a1_0 = 0
  · rw [if_pos h1] at h
    cases h
    subst h1
    exact merge_zero1 _ _ _ _ _ _ _ _ _ _ _ w e0
  rw [if_neg h1] at h
  have e1 : (a1_0 == 0) = false := beq_eq_false_iff_ne.mpr h1
  obtain ⟨⟨s1, s2⟩, hs, h⟩ := Option.bind_eq_some_iff.mp h
  have hm := Option.some.inj h
  have h3 : r3 = s1 ∧ r4 = s2 := by
    unfold mergeS at hm
    split at hm <;> (cases hm; exact ⟨rfl, rfl⟩)
  obtain ⟨rfl, rfl⟩ := h3
  cases a0_1 with
  | false => exact merge_plain _ _ _ _ _ _ _ _ _ _ _ _ _ _ _ _ _ w e0 e1 hs hm
  | true => exact merge_over _ _ _ _ _ _ _ _ _ _ _ _ _ _ _ _ _ w e0 e1 hs hm

end Go.Proofs.Ytihdomhiiolojaa.P
namespace Go.Proofs.Ytihdomhiiolojaa.P
open Go.RowKit Go.Proofs.YtihdomhiiolojaaW.PrintWords Go.Proofs.YtihdomhiiolojaaW.PrintLast Go.Proofs.YtihdomhiiolojaaW.PrintMore
set_option linter.unusedVariables false
set_option linter.unusedSimpArgs false

/-- One step on the rows. -/
def mstep (S : List (List En)) : Option (En × Nat × List (List En)) := match bestTo S S.length with
  | none => none
  | some p => match atL S p with
    | [] => none
    | x :: l => some (x, p, S.set p l)
def cntL (S : List (List En)) : Nat := (S.map List.length).sum
theorem atL_some {S : List (List En)} {p : Nat} {l : List En} (h : S[p]? = some l) : atL S p = l := by unfold atL; rw [List.getD_eq_getElem?_getD, h]; rfl
theorem sum_set : ∀ {S : List (List En)} {p : Nat} {x : En} {l : List En}, S[p]? = some (x :: l) → cntL S = cntL (S.set p l) + 1
  | [], p, x, l, h => by simp at h
  | r :: S, 0, x, l, h => by
    obtain rfl := Option.some.inj h
    simp only [cntL, List.set_cons_zero, List.map_cons, List.sum_cons, List.length_cons]; omega
  | r :: S, p + 1, x, l, h => by
    have ih := sum_set (S := S) (p := p) (x := x) (l := l) (by simpa using h)
    simp only [cntL, List.set_cons_succ, List.map_cons, List.sum_cons] at ih ⊢; omega
theorem mstep_some {S S' : List (List En)} {x : En} {p : Nat} (h : mstep S = some (x, p, S')) : ∃ l, S[p]? = some (x :: l) ∧ S' = S.set p l ∧ p < S.length ∧ cntL S = cntL S' + 1 := by
  unfold mstep at h
  split at h
  · cases h
  · next b hb =>
    obtain ⟨h1, h2, _⟩ := bestTo_some hb
    obtain ⟨r, hr⟩ : ∃ r, S[b]? = some r := ⟨_, List.getElem?_eq_getElem h1⟩
    rw [atL_some hr] at h
    split at h
    · cases h
    · next x' l =>
      injection h with h
      injection h with e1 h
      injection h with e2 e3
      subst e1; subst e2; subst e3
      exact ⟨l, hr, rfl, h1, sum_set hr⟩
theorem mstep_none {S : List (List En)} (h : mstep S = none) : ∀ l ∈ S, l = [] := by
  unfold mstep at h
  split at h
  · next hb =>
    intro l hl
    obtain ⟨j, hj⟩ := List.getElem?_of_mem hl
    have := bestTo_none hb j (List.getElem?_eq_some_iff.1 hj).1
    rwa [atL_some hj] at this
  · next b hb =>
    obtain ⟨h1, h2, _⟩ := bestTo_some hb
    split at h
    · next h3 => exact absurd h3 h2
    · cases h
theorem mstep_all {P : En → Prop} {S S' : List (List En)} {x : En} {p : Nat} (h : mstep S = some (x, p, S')) (hS : ∀ r ∈ S, ∀ y ∈ r, P y) : P x ∧ ∀ r ∈ S', ∀ y ∈ r, P y := by
  obtain ⟨l, h1, rfl, _, _⟩ := mstep_some h
  have hm := List.mem_of_getElem? h1
  refine ⟨hS _ hm x (List.mem_cons_self ..), fun r hr y hy => ?_⟩
  rcases List.mem_or_eq_of_mem_set hr with hr | rfl
  · exact hS r hr y hy
  · exact hS _ hm y (List.mem_cons_of_mem _ hy)
/-- A heap that stands for the rows S. -/
structure HS (w W : World) (g : Nat) (S : List (List En)) : Prop where
  ex : ∃ F, HpS w W g F ∧ (∀ k, OkAt F k) ∧ (F.map prF).Perm (frsTo S S.length)
  kl : ∀ l ∈ S, ∀ x ∈ l, x.f0.length < 140737488355328
  ln : S.length ≤ 100000000
theorem HS.be {w W : World} {g : Nat} {S : List (List En)} (h : HS w W g S) : Below w.heap.size w W := by obtain ⟨F, hF, _⟩ := h.ex; exact hF.be
theorem HS.gt {w W : World} {g : Nat} {S : List (List En)} (h : HS w W g S) : w.heap.size ≤ g := by obtain ⟨F, hF, _⟩ := h.ex; exact hF.gt
theorem HS.below {w W W' : World} {g : Nat} {S : List (List En)} (h : HS w W g S) (hb : Below W.heap.size W W') : HS w W' g S := by
  obtain ⟨F, hF, h1, h2⟩ := h.ex
  exact ⟨⟨F, hF.drewd hb, h1, h2⟩, h.kl, h.ln⟩
/-- A store in a block that is new, or of another kind, is nothing to a heap. -/
theorem HpS.step {w W W' : World} {g : Nat} {F : List Fr} (h : HpS w W g F) (hB : Below w.heap.size w W') (hk : ∀ (k : Nat) (cs : Array Value) (t : TypeId), W.heap[k]? = some (Obj.cells cs t (0, 0)) → t = 56 ∨ t = 50 → W'.heap[k]? = W.heap[k]?) : HpS w W' g F := by
  refine ⟨hB, h.gt, h.ro, ?_⟩
  rcases h.st with ⟨h1, A, cap, h2⟩ | ⟨h1, b, cap, J, h2, h3⟩
  · exact .inl ⟨h1, A, cap, (hk g _ _ h2 (.inr rfl)).trans h2⟩
  · exact .inr ⟨h1, b, cap, J, h2, h3.keep (hk g _ _ h3.hp (.inr rfl)) (hk b _ _ h3.fr (.inl rfl))⟩
theorem HS.step {w W W' : World} {g : Nat} {S : List (List En)} (h : HS w W g S) (hB : Below w.heap.size w W') (hk : ∀ (k : Nat) (cs : Array Value) (t : TypeId), W.heap[k]? = some (Obj.cells cs t (0, 0)) → t = 56 ∨ t = 50 → W'.heap[k]? = W.heap[k]?) : HS w W' g S := by
  obtain ⟨F, hF, h1, h2⟩ := h.ex
  exact ⟨⟨F, hF.step hB hk, h1, h2⟩, h.kl, h.ln⟩
def NextS (w W : World) (g : Nat) (S : List (List En)) (e : Ending) (w' : World) : Prop :=
  Kp W w' ∧ W.heap.size ≤ w'.heap.size ∧ match mstep S with
  | none => e = .returned (.tuple #[zEn, .int .i64 0, .bool false]) ∧ Below W.heap.size W w'
  | some (x, p, S') => ∃ (A5 : Option Addr) (c5 : Nat), e = .returned (.tuple #[enV A5 c5 x, .int .i64 (p : Int), .bool true]) ∧ Kd.R (Kd.int .u8) 5 w' W.heap.size (fun _ => True) (.slice A5 x.f0.length c5) x.f0 ∧ HS w w' g S'
theorem Next_S {w W : World} {g : Nat} {S : List (List En)} (h : HS w W g S) : Calls Try.prog 14 #[.pointer (some ⟨g, 0, none⟩)] W fun e w' => NextS w W g S e w' := by
  obtain ⟨F, hF, hok, hp⟩ := h.ex
  cases F with
  | nil =>
    rcases hF.st with ⟨_, A, cap, h2⟩ | ⟨h1, _⟩
    · have hm : mstep S = none := by unfold mstep; rw [step_none hp]
      refine (Next_empty g A cap W h2).mono ?_
      rintro e w' ⟨he, hb⟩
      unfold NextS
      rw [hm]
      exact ⟨Kp.of_below hb, hb.size, he, hb⟩
    · exact absurd rfl h1
  | cons f F =>
    obtain ⟨s1, s2, s3⟩ := step_some hok hp
    have hlen : (f :: F).length ≤ S.length := by
      have h1 := hp.length_eq
      rw [List.length_map] at h1
      have := frsTo_len S S.length
      omega
    have hmem : f.l ∈ S := List.mem_of_getElem? s2
    rcases hF.st with ⟨h1, _⟩ | ⟨_, b, cap, J, h2, h3⟩
    · cases h1
    · refine (Next_calls w W g b cap f F J h3 hF.be hF.gt h2 hF.ro (by have := h.ln; omega) (h.kl f.l hmem)).mono ?_
      rintro e w' ⟨x, A5, c5, A', c', hx, he, ho, hs, hk, hz⟩
      obtain ⟨l, hl⟩ : ∃ l, f.l = x :: l := by
        cases hfl : f.l with
        | nil => rw [hfl] at hx; simp at hx
        | cons y l => rw [hfl] at hx; obtain rfl := Option.some.inj hx; exact ⟨l, rfl⟩
      have hm : mstep S = some (x, f.p, S.set f.p l) := by
        unfold mstep
        rw [s1]
        simp only []
        rw [atL_some s2, hl]
      unfold NextS
      rw [hm]
      refine ⟨hk, hz, A5, c5, he, ho, ⟨nextF A' c' f F, hs, nextF_ok A' c' hok, ?_⟩, ?_, by rw [List.length_set]; exact h.ln⟩
      · have := step_rest A' c' hp s2 s3
        rw [hl] at this
        exact this
      · intro q hq x' hx'
        rcases List.mem_or_eq_of_mem_set hq with hq | rfl
        · exact h.kl q hq x' hx'
        · exact h.kl f.l hmem x' (by rw [hl]; exact List.mem_cons_of_mem _ hx')
/-- What New tells, on rows. -/
theorem New_S (A0 : Option Addr) (c0 : Nat) (rows : List (List En)) (w : World) (hr0 : Kd.C (Kd.slice 41 k41) w A0 rows.length rows) (hn : rows.length ≤ 100000000) (hk : ∀ l ∈ rows, ∀ x ∈ l, x.f0.length < 140737488355328) :
    Calls Try.prog 12 #[.slice A0 rows.length c0] w fun e w' =>
      (newE rows ≠ 0 ∧ e = .returned (.tuple #[.pointer none, .int .i64 (newE rows)]) ∧ Below w.heap.size w w') ∨
      (newE rows = 0 ∧ ∃ g, e = .returned (.tuple #[.pointer (some ⟨g, 0, none⟩), .int .i64 0]) ∧ HS w w' g rows) := by
  refine (New_calls A0 c0 rows w hr0 hn).mono ?_
  rintro e w' (h | ⟨h0, g, F, he, hs, hf⟩)
  · exact .inl h
  · refine .inr ⟨h0, g, he, ⟨⟨_, hs, heapify_ok F, ?_⟩, hk, hn⟩⟩
    rw [← hf]
    exact (heapifyL_perm _ F).map prF
/-- All steps. -/
def mrun : Nat → List (List En) → List (En × Nat)
  | 0, _ => []
  | k + 1, S => match mstep S with
    | none => []
    | some (x, p, S') => (x, p) :: mrun k S'
def mall (S : List (List En)) : List (En × Nat) := mrun (cntL S) S
theorem mall_none {S : List (List En)} (h : mstep S = none) : mall S = [] := by
  unfold mall
  cases hc : cntL S with
  | zero => rfl
  | succ k => rw [mrun, h]
theorem mall_some {S S' : List (List En)} {x : En} {p : Nat} (h : mstep S = some (x, p, S')) : mall S = (x, p) :: mall S' := by
  obtain ⟨l, _, _, _, hc⟩ := mstep_some h
  unfold mall
  rw [hc, mrun, h]
def mgA (a b : Ag) : Ag := match agg_Merge.f a.f0 a.f1 a.f2.f0 a.f2.f1 a.f3 a.f4 b.f0 b.f1 b.f2.f0 b.f2.f1 b.f3 b.f4 with
  | some (r1, r2, r3, r4, r5, r6) => ⟨r1, r2, ⟨r3, r4⟩, r5, r6⟩
  | none => a
/-- One entry more: merged with the last one, if it is of its key. -/
def addM (out : List En) (x : En) : List En := match out.getLast? with
  | none => out ++ [x]
  | some y => if cmpI y.f0 x.f0 = 0 then out.set (out.length - 1) ⟨y.f0, mgA y.f1 x.f1⟩ else out ++ [x]
def allM (S : List (List En)) : List En := ((mall S).map Prod.fst).foldl addM []
def okW (a : Ag) : Prop := 0 ≤ a.f2.f1 ∧ a.f2.f1 < 18446744073709551616
instance (a : Ag) : Decidable (okW a) := by unfold okW; infer_instance
theorem mgA_some {a b : Ag} (ha : okW a) (hb : okW b) : ∃ r1 r2 r3 r4 r5 r6, agg_Merge.f a.f0 a.f1 a.f2.f0 a.f2.f1 a.f3 a.f4 b.f0 b.f1 b.f2.f0 b.f2.f1 b.f3 b.f4 = some (r1, r2, r3, r4, r5, r6) ∧ mgA a b = ⟨r1, r2, ⟨r3, r4⟩, r5, r6⟩ ∧ okW (mgA a b) := by
  obtain ⟨r, hr⟩ : ∃ r, agg_Merge.f a.f0 a.f1 a.f2.f0 a.f2.f1 a.f3 a.f4 b.f0 b.f1 b.f2.f0 b.f2.f1 b.f3 b.f4 = some r ∧ 0 ≤ r.2.2.2.1 ∧ r.2.2.2.1 < 18446744073709551616 := by
    unfold agg_Merge.f
    by_cases h0 : a.f0 = 0
    · rw [if_pos h0]; exact ⟨_, rfl, hb⟩
    · rw [if_neg h0]
      by_cases h1 : b.f0 = 0
      · rw [if_pos h1]; exact ⟨_, rfl, ha⟩
      · rw [if_neg h1]
        unfold wide_Add.f
        rw [if_pos ⟨ha.1, ha.2, hb.1, hb.2⟩]
        refine ⟨_, rfl, ?_⟩
        simp only [mergeS]
        have : 0 ≤ addLo a.f2.f1 b.f2.f1 ∧ addLo a.f2.f1 b.f2.f1 < 18446744073709551616 := by unfold addLo sumLo; omega
        split <;> exact this
  obtain ⟨r1, r2, r3, r4, r5, r6⟩ := r
  have e : mgA a b = ⟨r1, r2, ⟨r3, r4⟩, r5, r6⟩ := by unfold mgA; rw [hr.1]
  exact ⟨r1, r2, r3, r4, r5, r6, hr.1, e, by rw [e]; exact hr.2⟩
end Go.Proofs.Ytihdomhiiolojaa.P

namespace Go.Proofs.Ytihdomhiiolojaa.P
open Go.RowKit Go.Proofs.YtihdomhiiolojaaW.PrintWords Go.Proofs.YtihdomhiiolojaaW.PrintLast Go.Proofs.YtihdomhiiolojaaW.PrintMore
set_option linter.unusedVariables false
set_option linter.unusedSimpArgs false

def Byt (x : En) : Prop := ∀ b ∈ x.f0, 0 ≤ b ∧ b < 256
def Rises (l : List En) : Prop := l.Pairwise (fun x y => cmpI x.f0 y.f0 < 0)
theorem rises_of_head : ∀ {x y : En} {l : List En}, cmpI x.f0 y.f0 < 0 → Rises (y :: l) → Rises (x :: y :: l) := by
  intro x y l h hr
  refine List.pairwise_cons.2 ⟨fun z hz => ?_, hr⟩
  rcases List.mem_cons.1 hz with rfl | hz
  · exact h
  · exact cmpI_trans h ((List.pairwise_cons.1 hr).1 z hz)
theorem risesE_iff : ∀ l : List En, risesE l = true ↔ Rises l
  | [] => by simp [risesE, Rises]
  | [x] => by simp [risesE, Rises]
  | x :: y :: l => by
    rw [risesE, Bool.and_eq_true, decide_eq_true_iff, risesE_iff (y :: l)]
    constructor
    · rintro ⟨h1, h2⟩; exact rises_of_head h1 h2
    · intro h; exact ⟨(List.pairwise_cons.1 h).1 y (List.mem_cons_self ..), (List.pairwise_cons.1 h).2⟩
def gk (k : List Int) (l : List En) : List Ag := (l.filter (fun x => decide (x.f0 = k))).map (·.f1)
def fold1 : List Ag → Option Ag
  | [] => none
  | a :: l => some (l.foldl mgA a)
theorem gk_nil (k : List Int) : gk k [] = [] := rfl
theorem gk_cons (k : List Int) (x : En) (l : List En) : gk k (x :: l) = if x.f0 = k then x.f1 :: gk k l else gk k l := by
  unfold gk
  rw [List.filter_cons]
  by_cases h : x.f0 = k
  · rw [if_pos (decide_eq_true h), if_pos h]; rfl
  · rw [if_neg (by simpa using h), if_neg h]
theorem gk_append (k : List Int) (l m : List En) : gk k (l ++ m) = gk k l ++ gk k m := by unfold gk; rw [List.filter_append, List.map_append]
theorem gk_none {k : List Int} {l : List En} (h : ∀ x ∈ l, x.f0 ≠ k) : gk k l = [] := by
  unfold gk
  rw [List.filter_eq_nil_iff.2 (fun x hx => by simpa using h x hx)]; rfl
theorem fold1_snoc (l : List Ag) (a : Ag) (h : l ≠ []) : fold1 (l ++ [a]) = (fold1 l).map (fun b => mgA b a) := by
  cases l with
  | nil => exact absurd rfl h
  | cons b l => simp [fold1]
theorem fold1_app (l m : List Ag) : fold1 (l ++ m) = match fold1 l with | none => fold1 m | some a => some (m.foldl mgA a) := by
  cases l with
  | nil => rfl
  | cons b l => simp [fold1]
/-- Entries of rows that rise: none twice. -/
theorem gk_rises {k : List Int} : ∀ {l : List En}, Rises l → gk k l = [] ∨ ∃ x ∈ l, x.f0 = k ∧ gk k l = [x.f1]
  | [], _ => .inl rfl
  | x :: l, h => by
    obtain ⟨h1, h2⟩ := List.pairwise_cons.1 h
    rw [gk_cons]
    by_cases hx : x.f0 = k
    · refine .inr ⟨x, List.mem_cons_self .., hx, ?_⟩
      rw [if_pos hx, gk_none (l := l) (fun y hy e => ?_)]
      have := h1 y hy
      rw [hx, e, cmpI_self] at this
      omega
    · rw [if_neg hx]
      rcases gk_rises (k := k) h2 with h3 | ⟨y, hy, h4⟩
      · exact .inl h3
      · exact .inr ⟨y, List.mem_cons_of_mem _ hy, h4⟩
theorem gk_mem {l : List En} {x : En} (h : Rises l) (hx : x ∈ l) : gk x.f0 l = [x.f1] := by
  rcases gk_rises (k := x.f0) h with h1 | ⟨y, hy, he, h1⟩
  · unfold gk at h1
    have h2 := List.map_eq_nil_iff.1 h1
    exact absurd (List.mem_filter.2 ⟨hx, decide_eq_true rfl⟩) (by rw [h2]; exact fun h => by cases h)
  · unfold gk at h1
    have hm : x.f1 ∈ (l.filter (fun z => decide (z.f0 = x.f0))).map (·.f1) := List.mem_map.2 ⟨x, List.mem_filter.2 ⟨hx, decide_eq_true rfl⟩, rfl⟩
    rw [h1] at hm
    unfold gk
    rw [h1, List.mem_singleton.1 hm]
/-- Rows that rise and know the same are the same. -/
theorem rises_ext : ∀ {l m : List En}, Rises l → Rises m → (∀ x ∈ l, Byt x) → (∀ x ∈ m, Byt x) → (∀ k, fold1 (gk k l) = fold1 (gk k m)) → l = m
  | [], [], _, _, _, _, _ => rfl
  | [], y :: m, _, hm, _, _, h => by
    have := h y.f0
    rw [gk_mem hm (List.mem_cons_self ..)] at this
    cases this
  | x :: l, [], hl, _, _, _, h => by
    have := h x.f0
    rw [gk_mem hl (List.mem_cons_self ..)] at this
    cases this
  | x :: l, y :: m, hl, hm, bl, bm, h => by
    obtain ⟨l1, l2⟩ := List.pairwise_cons.1 hl
    obtain ⟨m1, m2⟩ := List.pairwise_cons.1 hm
    have hxy : x.f0 = y.f0 := by
      have h1 := h x.f0
      rw [gk_mem hl (List.mem_cons_self ..)] at h1
      have h2 := h y.f0
      rw [gk_mem hm (List.mem_cons_self ..)] at h2
      by_cases he : x.f0 = y.f0
      · exact he
      · exfalso
        have hne : cmpI x.f0 y.f0 ≠ 0 := fun h0 => he ((cmpI_zero (bl x (List.mem_cons_self ..)) (bm y (List.mem_cons_self ..))).1 h0)
        have ha := cmpI_anti x.f0 y.f0
        by_cases hlt : cmpI x.f0 y.f0 < 0
        · rw [gk_none (l := y :: m) (fun z hz e => ?_)] at h1
          · cases h1
          · rcases List.mem_cons.1 hz with rfl | hz
            · exact he e.symm
            · have := cmpI_trans hlt (m1 z hz)
              rw [e, cmpI_self] at this; omega
        · rw [gk_none (l := x :: l) (fun z hz e => ?_)] at h2
          · cases h2
          · rcases List.mem_cons.1 hz with rfl | hz
            · exact he e
            · have := cmpI_trans (show cmpI y.f0 x.f0 < 0 by omega) (l1 z hz)
              rw [e, cmpI_self] at this; omega
    have h1 := h x.f0
    rw [gk_mem hl (List.mem_cons_self ..), hxy, gk_mem hm (List.mem_cons_self ..)] at h1
    have hf : x.f1 = y.f1 := Option.some.inj h1
    have e : x = y := by cases x; cases y; simp only at hxy hf; rw [hxy, hf]
    subst e
    refine congrArg _ (rises_ext l2 m2 (fun z hz => bl z (List.mem_cons_of_mem _ hz)) (fun z hz => bm z (List.mem_cons_of_mem _ hz)) (fun k => ?_))
    by_cases hk : x.f0 = k
    · rw [gk_none (fun z hz e => ?_), gk_none (fun z hz e => ?_)]
      · have := m1 z hz
        rw [hk, e, cmpI_self] at this; omega
      · have := l1 z hz
        rw [hk, e, cmpI_self] at this; omega
    · have := h k
      rwa [gk_cons, gk_cons, if_neg hk, if_neg hk] at this
/-- Of entries whose keys do not fall, put one behind the other. -/
def NoFall (l : List En) : Prop := l.Pairwise (fun x y => cmpI x.f0 y.f0 ≤ 0)
theorem addM_spec {out : List En} {x : En} (ho : Rises out) (hb : ∀ y ∈ out, Byt y) (hx : Byt x) (hle : ∀ y ∈ out, cmpI y.f0 x.f0 ≤ 0) :
    Rises (addM out x) ∧ (∀ y ∈ addM out x, Byt y) ∧ (∀ y ∈ addM out x, cmpI y.f0 x.f0 ≤ 0) ∧ ∀ k, fold1 (gk k (addM out x)) = fold1 (gk k out ++ gk k [x]) := by
  unfold addM
  cases hl : out.getLast? with
  | none =>
    have : out = [] := by simpa using hl
    subst this
    refine ⟨by simp [Rises], fun y hy => ?_, fun y hy => ?_, fun k => rfl⟩
    · simp only [List.nil_append, List.mem_singleton] at hy; rw [hy]; exact hx
    · simp only [List.nil_append, List.mem_singleton] at hy; rw [hy, cmpI_self]; omega
  | some z =>
    obtain ⟨o, rfl⟩ : ∃ o, out = o ++ [z] := ⟨out.dropLast, by
      have hne : out ≠ [] := by rintro rfl; simp at hl
      have := List.dropLast_concat_getLast hne
      rw [List.getLast?_eq_some_getLast hne] at hl
      rw [← Option.some.inj hl]; exact this.symm⟩
    have hz := hle z (by simp)
    obtain ⟨r1, _, r3⟩ := List.pairwise_append.1 ho
    simp only []
    by_cases h0 : cmpI z.f0 x.f0 = 0
    · rw [if_pos h0]
      have hzx : z.f0 = x.f0 := (cmpI_zero (hb z (by simp)) hx).1 h0
      have e : (o ++ [z]).set ((o ++ [z]).length - 1) ⟨z.f0, mgA z.f1 x.f1⟩ = o ++ [⟨z.f0, mgA z.f1 x.f1⟩] := by simp
      rw [e]
      refine ⟨List.pairwise_append.2 ⟨r1, by simp, fun a ha b hb' => ?_⟩, fun y hy => ?_, fun y hy => ?_, fun k => ?_⟩
      · rw [List.mem_singleton.1 hb']; exact r3 a ha z (by simp)
      · rcases List.mem_append.1 hy with hy | hy
        · exact hb y (List.mem_append_left _ hy)
        · rw [List.mem_singleton.1 hy]; exact hb z (by simp)
      · rcases List.mem_append.1 hy with hy | hy
        · exact hle y (List.mem_append_left _ hy)
        · rw [List.mem_singleton.1 hy]; exact hz
      · rw [gk_append, gk_append, gk_cons, gk_cons, gk_cons]
        by_cases hk : z.f0 = k
        · have hk2 : x.f0 = k := by rw [← hzx]; exact hk
          rw [if_pos hk, if_pos hk2]
          have h1 : gk k o = [] := gk_none (fun y hy ey => by
            have := r3 y hy z (by simp)
            rw [hk, ey, cmpI_self] at this; omega)
          rw [h1, if_pos hk]
          simp [gk_nil, fold1]
        · have hk2 : x.f0 ≠ k := by rw [← hzx]; exact hk
          rw [if_neg hk, if_neg hk, if_neg hk2]
          simp [gk_nil]
    · rw [if_neg h0]
      refine ⟨List.pairwise_append.2 ⟨ho, by simp, fun a ha b hb' => ?_⟩, fun y hy => ?_, fun y hy => ?_, fun k => by rw [gk_append]⟩
      · rw [List.mem_singleton.1 hb']
        rcases List.mem_append.1 ha with ha | ha
        · exact cmpI_lt_le (r3 a ha z (by simp)) hz
        · rw [List.mem_singleton.1 ha]; omega
      · rcases List.mem_append.1 hy with hy | hy
        · exact hb y hy
        · rw [List.mem_singleton.1 hy]; exact hx
      · rcases List.mem_append.1 hy with hy | hy
        · exact hle y hy
        · rw [List.mem_singleton.1 hy, cmpI_self]; omega
theorem fold1_congr {a b c : List Ag} (h : fold1 a = fold1 b) : fold1 (a ++ c) = fold1 (b ++ c) := by rw [fold1_app, fold1_app, h]
theorem foldM_spec : ∀ (L out : List En), Rises out → (∀ y ∈ out, Byt y) → (∀ y ∈ L, Byt y) → NoFall L → (∀ y ∈ out, ∀ z ∈ L, cmpI y.f0 z.f0 ≤ 0) →
    Rises (L.foldl addM out) ∧ (∀ y ∈ L.foldl addM out, Byt y) ∧ ∀ k, fold1 (gk k (L.foldl addM out)) = fold1 (gk k out ++ gk k L)
  | [], out, ho, hb, _, _, _ => ⟨ho, hb, fun k => by rw [gk_nil, List.append_nil]; rfl⟩
  | x :: L, out, ho, hb, hL, hf, hle => by
    obtain ⟨f1, f2⟩ := List.pairwise_cons.1 hf
    obtain ⟨a1, a2, a3, a4⟩ := addM_spec ho hb (hL x (List.mem_cons_self ..)) (fun y hy => hle y hy x (List.mem_cons_self ..))
    obtain ⟨b1, b2, b3⟩ := foldM_spec L (addM out x) a1 a2 (fun y hy => hL y (List.mem_cons_of_mem _ hy)) f2 (fun y hy z hz => cmpI_le_trans (a3 y hy) (f1 z hz))
    refine ⟨b1, b2, fun k => ?_⟩
    rw [List.foldl_cons, b3 k, fold1_congr (a4 k), List.append_assoc, ← gk_append]
    rfl
/-- Each row rises. -/
def RowsR (S : List (List En)) : Prop := ∀ l ∈ S, Rises l ∧ ∀ x ∈ l, Byt x
theorem step_RowsR {S S' : List (List En)} {x : En} {p : Nat} (h : mstep S = some (x, p, S')) (hS : RowsR S) : RowsR S' ∧ Byt x := by
  obtain ⟨l, h1, rfl, _, _⟩ := mstep_some h
  have hm := hS _ (List.mem_of_getElem? h1)
  refine ⟨fun r hr => ?_, hm.2 x (List.mem_cons_self ..)⟩
  rcases List.mem_or_eq_of_mem_set hr with hr | rfl
  · exact hS r hr
  · exact ⟨(List.pairwise_cons.1 hm.1).2, fun y hy => hm.2 y (List.mem_cons_of_mem _ hy)⟩
/-- The entry that is told is the least, and the first of the least. -/
theorem step_least {S S' : List (List En)} {x : En} {p : Nat} (h : mstep S = some (x, p, S')) (hS : RowsR S) : ∀ (j : Nat) (r : List En), S[j]? = some r → ∀ y ∈ r, (j < p → cmpI x.f0 y.f0 < 0) ∧ cmpI x.f0 y.f0 ≤ 0 := by
  intro j r hj y hy
  obtain ⟨l, h1, rfl, hp, _⟩ := mstep_some h
  have hb : bestTo S S.length = some p := by
    unfold mstep at h
    split at h
    · cases h
    · next b hb =>
      split at h
      · cases h
      · injection h with h
        injection h with _ h
        injection h with e _
        rw [hb, e]
  obtain ⟨_, _, b3⟩ := bestTo_some hb
  have hjl := (List.getElem?_eq_some_iff.1 hj).1
  obtain ⟨z, r', rfl⟩ : ∃ z r', r = z :: r' := by
    cases r with
    | nil => cases hy
    | cons z r' => exact ⟨z, r', rfl⟩
  have hb3 := b3 j hjl (by rw [atL_some hj]; exact fun e => by cases e)
  rw [atL_some hj, atL_some h1] at hb3
  have kx : keyL (x :: l) = x.f0 := rfl
  have kz : keyL (z :: r') = z.f0 := rfl
  rw [kx, kz] at hb3
  have hzy : cmpI z.f0 y.f0 ≤ 0 := by
    rcases List.mem_cons.1 hy with rfl | hy
    · rw [cmpI_self]; omega
    · have := (List.pairwise_cons.1 (hS _ (List.mem_of_getElem? hj)).1).1 y hy
      omega
  constructor
  · intro hjp
    rcases hb3 with h4 | ⟨h4, h5⟩
    · exact cmpI_lt_le h4 hzy
    · omega
  · exact cmpI_le_trans (by rcases hb3 with h4 | ⟨h4, _⟩ <;> omega) hzy
theorem flat_set : ∀ {S : List (List En)} {p : Nat} {x : En} {l : List En}, S[p]? = some (x :: l) → ∃ A B, S.flatten = A ++ x :: B ∧ (S.set p l).flatten = A ++ B ∧ ∀ y ∈ A, ∃ j r, j < p ∧ S[j]? = some r ∧ y ∈ r
  | [], p, x, l, h => by simp at h
  | r :: S, 0, x, l, h => by
    obtain rfl := Option.some.inj h
    exact ⟨[], l ++ S.flatten, rfl, rfl, fun y hy => by cases hy⟩
  | r :: S, p + 1, x, l, h => by
    obtain ⟨A, B, e1, e2, hA⟩ := flat_set (S := S) (p := p) (x := x) (l := l) (by simpa using h)
    refine ⟨r ++ A, B, by rw [List.flatten_cons, e1, List.append_assoc], by rw [List.set_cons_succ, List.flatten_cons, e2, List.append_assoc], fun y hy => ?_⟩
    rcases List.mem_append.1 hy with hy | hy
    · exact ⟨0, r, by omega, rfl, hy⟩
    · obtain ⟨j, q, h1, h2, h3⟩ := hA y hy
      exact ⟨j + 1, q, by omega, by simpa using h2, h3⟩
theorem mem_flat_of {S : List (List En)} {y : En} (h : y ∈ S.flatten) : ∃ (j : Nat) (r : List En), S[j]? = some r ∧ y ∈ r := by
  obtain ⟨r, hr, hy⟩ := List.mem_flatten.1 h
  obtain ⟨j, hj⟩ := List.getElem?_of_mem hr
  exact ⟨j, r, hj, hy⟩
/-- What the run tells: each entry once; keys do not fall; of one key in the rows' order. -/
theorem mall_spec : ∀ (n : Nat) (S : List (List En)), cntL S = n → RowsR S → NoFall ((mall S).map Prod.fst) ∧ (∀ y ∈ (mall S).map Prod.fst, y ∈ S.flatten) ∧ ∀ k, gk k ((mall S).map Prod.fst) = gk k S.flatten
  | 0, S, hn, hS => by
    have h0 : mall S = [] := by unfold mall; rw [hn]; rfl
    have hf : S.flatten = [] := by
      apply List.length_eq_zero_iff.1
      rw [List.length_flatten]; exact hn
    rw [h0, hf]
    exact ⟨by simp [NoFall], by simp, fun k => rfl⟩
  | n + 1, S, hn, hS => by
    cases hm : mstep S with
    | none =>
      have hall := mstep_none hm
      have hf : S.flatten = [] := List.flatten_eq_nil_iff.2 hall
      have : cntL S = 0 := by have h := List.length_flatten (L := S); rw [hf] at h; exact h.symm
      omega
    | some r =>
      obtain ⟨x, p, S'⟩ := r
      obtain ⟨l, h1, he, hp, hc⟩ := mstep_some hm
      obtain ⟨hS', hbx⟩ := step_RowsR hm hS
      have hle := step_least hm hS
      obtain ⟨i1, i2, i3⟩ := mall_spec n S' (by omega) hS'
      rw [mall_some hm, List.map_cons]
      obtain ⟨A, B, e1, e2, hA⟩ := flat_set h1
      rw [← he] at e2
      have hsub : ∀ y, y ∈ S'.flatten → y ∈ S.flatten := fun y hy => by
        rw [e1]; rw [e2] at hy
        rcases List.mem_append.1 hy with h | h
        · exact List.mem_append_left _ h
        · exact List.mem_append_right _ (List.mem_cons_of_mem _ h)
      refine ⟨List.pairwise_cons.2 ⟨fun y hy => ?_, i1⟩, fun y hy => ?_, fun k => ?_⟩
      · obtain ⟨j, r, hj, hy'⟩ := mem_flat_of (hsub y (i2 y hy))
        exact (hle j r hj y hy').2
      · rcases List.mem_cons.1 hy with rfl | hy
        · rw [e1]; simp
        · exact hsub y (i2 y hy)
      · rw [gk_cons, i3 k, e2, e1, gk_append, gk_append, gk_cons]
        by_cases hk : x.f0 = k
        · rw [if_pos hk, if_pos hk]
          have hA0 : gk k A = [] := gk_none (fun y hy ey => by
            obtain ⟨j, r, hj, hr, hyr⟩ := hA y hy
            have := (hle j r hr y hyr).1 hj
            rw [hk, ey, cmpI_self] at this; omega)
          rw [hA0]; rfl
        · rw [if_neg hk, if_neg hk]
/-- All: a row that rises, and knows of each key what the rows know in their order. -/
theorem allM_spec {S : List (List En)} (hS : RowsR S) : Rises (allM S) ∧ (∀ y ∈ allM S, Byt y) ∧ ∀ k, fold1 (gk k (allM S)) = fold1 (gk k S.flatten) := by
  obtain ⟨h1, h2, h3⟩ := mall_spec _ S rfl hS
  have hb : ∀ y ∈ (mall S).map Prod.fst, Byt y := fun y hy => by
    obtain ⟨j, r, hj, hy'⟩ := mem_flat_of (h2 y hy)
    exact (hS r (List.mem_of_getElem? hj)).2 y hy'
  obtain ⟨a, b, c⟩ := foldM_spec _ [] (by simp [Rises]) (fun y hy => by cases hy) hb h1 (fun y hy => by cases hy)
  refine ⟨a, b, fun k => ?_⟩
  unfold allM
  rw [c k, gk_nil, List.nil_append, h3 k]
end Go.Proofs.Ytihdomhiiolojaa.P
