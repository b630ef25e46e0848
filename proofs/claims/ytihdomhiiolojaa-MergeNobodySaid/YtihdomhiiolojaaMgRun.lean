/- A heap as the rows that it stands for; Next is one step on the rows. No conditions. -/
import Derived.Test.YtihdomhiiolojaaMgNext
import Derived.Test.YtihdomhiiolojaaMgStep
import Derived.Test.YtihdomhiiolojaaEMergeD
namespace Go.Proofs.Ytihdomhiiolojaa.P
open Go.RowKit Go.Proofs.YtihdomhiiolojaaW.PrintWords Go.Proofs.YtihdomhiiolojaaW.PrintLast Go.Proofs.YtihdomhiiolojaaW.PrintMore
set_option linter.unusedVariables false
set_option linter.unusedSimpArgs false

/-- One step on the rows. -/
def mstep (S : List (List En)) : Option (En × Nat × List (List En)) := match bestTo S S.length with
  | none => none
  | some p => match atL S p with
    | [] => none
    | x :: l => some (x, p, S.set p l)
def cntL (S : List (List En)) : Nat := (S.map List.length).sum
theorem atL_some {S : List (List En)} {p : Nat} {l : List En} (h : S[p]? = some l) : atL S p = l := by unfold atL; rw [List.getD_eq_getElem?_getD, h]; rfl
theorem sum_set : ∀ {S : List (List En)} {p : Nat} {x : En} {l : List En}, S[p]? = some (x :: l) → cntL S = cntL (S.set p l) + 1
  | [], p, x, l, h => by simp at h
  | r :: S, 0, x, l, h => by
    obtain rfl := Option.some.inj h
    simp only [cntL, List.set_cons_zero, List.map_cons, List.sum_cons, List.length_cons]; omega
  | r :: S, p + 1, x, l, h => by
    have ih := sum_set (S := S) (p := p) (x := x) (l := l) (by simpa using h)
    simp only [cntL, List.set_cons_succ, List.map_cons, List.sum_cons] at ih ⊢; omega
theorem mstep_some {S S' : List (List En)} {x : En} {p : Nat} (h : mstep S = some (x, p, S')) : ∃ l, S[p]? = some (x :: l) ∧ S' = S.set p l ∧ p < S.length ∧ cntL S = cntL S' + 1 := by
  unfold mstep at h
  split at h
  · cases h
  · next b hb =>
    obtain ⟨h1, h2, _⟩ := bestTo_some hb
    obtain ⟨r, hr⟩ : ∃ r, S[b]? = some r := ⟨_, List.getElem?_eq_getElem h1⟩
    rw [atL_some hr] at h
    split at h
    · cases h
    · next x' l =>
      injection h with h
      injection h with e1 h
      injection h with e2 e3
      subst e1; subst e2; subst e3
      exact ⟨l, hr, rfl, h1, sum_set hr⟩
theorem mstep_none {S : List (List En)} (h : mstep S = none) : ∀ l ∈ S, l = [] := by
  unfold mstep at h
  split at h
  · next hb =>
    intro l hl
    obtain ⟨j, hj⟩ := List.getElem?_of_mem hl
    have := bestTo_none hb j (List.getElem?_eq_some_iff.1 hj).1
    rwa [atL_some hj] at this
  · next b hb =>
    obtain ⟨h1, h2, _⟩ := bestTo_some hb
    split at h
    · next h3 => exact absurd h3 h2
    · cases h
theorem mstep_all {P : En → Prop} {S S' : List (List En)} {x : En} {p : Nat} (h : mstep S = some (x, p, S')) (hS : ∀ r ∈ S, ∀ y ∈ r, P y) : P x ∧ ∀ r ∈ S', ∀ y ∈ r, P y := by
  obtain ⟨l, h1, rfl, _, _⟩ := mstep_some h
  have hm := List.mem_of_getElem? h1
  refine ⟨hS _ hm x (List.mem_cons_self ..), fun r hr y hy => ?_⟩
  rcases List.mem_or_eq_of_mem_set hr with hr | rfl
  · exact hS r hr y hy
  · exact hS _ hm y (List.mem_cons_of_mem _ hy)
/-- A heap that stands for the rows S. -/
structure HS (w W : World) (g : Nat) (S : List (List En)) : Prop where
  ex : ∃ F, HpS w W g F ∧ (∀ k, OkAt F k) ∧ (F.map prF).Perm (frsTo S S.length)
  kl : ∀ l ∈ S, ∀ x ∈ l, x.f0.length < 140737488355328
  ln : S.length ≤ 100000000
theorem HS.be {w W : World} {g : Nat} {S : List (List En)} (h : HS w W g S) : Below w.heap.size w W := by obtain ⟨F, hF, _⟩ := h.ex; exact hF.be
theorem HS.gt {w W : World} {g : Nat} {S : List (List En)} (h : HS w W g S) : w.heap.size ≤ g := by obtain ⟨F, hF, _⟩ := h.ex; exact hF.gt
theorem HS.below {w W W' : World} {g : Nat} {S : List (List En)} (h : HS w W g S) (hb : Below W.heap.size W W') : HS w W' g S := by
  obtain ⟨F, hF, h1, h2⟩ := h.ex
  exact ⟨⟨F, hF.drewd hb, h1, h2⟩, h.kl, h.ln⟩
/-- A store in a block that is new, or of another kind, is nothing to a heap. -/
theorem HpS.step {w W W' : World} {g : Nat} {F : List Fr} (h : HpS w W g F) (hB : Below w.heap.size w W') (hk : ∀ (k : Nat) (cs : Array Value) (t : TypeId), W.heap[k]? = some (Obj.cells cs t (0, 0)) → t = 56 ∨ t = 50 → W'.heap[k]? = W.heap[k]?) : HpS w W' g F := by
  refine ⟨hB, h.gt, h.ro, ?_⟩
  rcases h.st with ⟨h1, A, cap, h2⟩ | ⟨h1, b, cap, J, h2, h3⟩
  · exact .inl ⟨h1, A, cap, (hk g _ _ h2 (.inr rfl)).trans h2⟩
  · exact .inr ⟨h1, b, cap, J, h2, h3.keep (hk g _ _ h3.hp (.inr rfl)) (hk b _ _ h3.fr (.inl rfl))⟩
theorem HS.step {w W W' : World} {g : Nat} {S : List (List En)} (h : HS w W g S) (hB : Below w.heap.size w W') (hk : ∀ (k : Nat) (cs : Array Value) (t : TypeId), W.heap[k]? = some (Obj.cells cs t (0, 0)) → t = 56 ∨ t = 50 → W'.heap[k]? = W.heap[k]?) : HS w W' g S := by
  obtain ⟨F, hF, h1, h2⟩ := h.ex
  exact ⟨⟨F, hF.step hB hk, h1, h2⟩, h.kl, h.ln⟩
def NextS (w W : World) (g : Nat) (S : List (List En)) (e : Ending) (w' : World) : Prop :=
  Kp W w' ∧ W.heap.size ≤ w'.heap.size ∧ match mstep S with
  | none => e = .returned (.tuple #[zEn, .int .i64 0, .bool false]) ∧ Below W.heap.size W w'
  | some (x, p, S') => ∃ (A5 : Option Addr) (c5 : Nat), e = .returned (.tuple #[enV A5 c5 x, .int .i64 (p : Int), .bool true]) ∧ Kd.R (Kd.int .u8) 5 w' W.heap.size (fun _ => True) (.slice A5 x.f0.length c5) x.f0 ∧ HS w w' g S'
theorem Next_S {w W : World} {g : Nat} {S : List (List En)} (h : HS w W g S) : Calls Try.prog 14 #[.pointer (some ⟨g, 0, none⟩)] W fun e w' => NextS w W g S e w' := by
  obtain ⟨F, hF, hok, hp⟩ := h.ex
  cases F with
  | nil =>
    rcases hF.st with ⟨_, A, cap, h2⟩ | ⟨h1, _⟩
    · have hm : mstep S = none := by unfold mstep; rw [step_none hp]
      refine (Next_empty g A cap W h2).mono ?_
      rintro e w' ⟨he, hb⟩
      unfold NextS
      rw [hm]
      exact ⟨Kp.of_below hb, hb.size, he, hb⟩
    · exact absurd rfl h1
  | cons f F =>
    obtain ⟨s1, s2, s3⟩ := step_some hok hp
    have hlen : (f :: F).length ≤ S.length := by
      have h1 := hp.length_eq
      rw [List.length_map] at h1
      have := frsTo_len S S.length
      omega
    have hmem : f.l ∈ S := List.mem_of_getElem? s2
    rcases hF.st with ⟨h1, _⟩ | ⟨_, b, cap, J, h2, h3⟩
    · cases h1
    · refine (Next_calls w W g b cap f F J h3 hF.be hF.gt h2 hF.ro (by have := h.ln; omega) (h.kl f.l hmem)).mono ?_
      rintro e w' ⟨x, A5, c5, A', c', hx, he, ho, hs, hk, hz⟩
      obtain ⟨l, hl⟩ : ∃ l, f.l = x :: l := by
        cases hfl : f.l with
        | nil => rw [hfl] at hx; simp at hx
        | cons y l => rw [hfl] at hx; obtain rfl := Option.some.inj hx; exact ⟨l, rfl⟩
      have hm : mstep S = some (x, f.p, S.set f.p l) := by
        unfold mstep
        rw [s1]
        simp only []
        rw [atL_some s2, hl]
      unfold NextS
      rw [hm]
      refine ⟨hk, hz, A5, c5, he, ho, ⟨nextF A' c' f F, hs, nextF_ok A' c' hok, ?_⟩, ?_, by rw [List.length_set]; exact h.ln⟩
      · have := step_rest A' c' hp s2 s3
        rw [hl] at this
        exact this
      · intro q hq x' hx'
        rcases List.mem_or_eq_of_mem_set hq with hq | rfl
        · exact h.kl q hq x' hx'
        · exact h.kl f.l hmem x' (by rw [hl]; exact List.mem_cons_of_mem _ hx')
/-- What New tells, on rows. -/
theorem New_S (A0 : Option Addr) (c0 : Nat) (rows : List (List En)) (w : World) (hr0 : Kd.C (Kd.slice 41 k41) w A0 rows.length rows) (hn : rows.length ≤ 100000000) (hk : ∀ l ∈ rows, ∀ x ∈ l, x.f0.length < 140737488355328) :
    Calls Try.prog 12 #[.slice A0 rows.length c0] w fun e w' =>
      (newE rows ≠ 0 ∧ e = .returned (.tuple #[.pointer none, .int .i64 (newE rows)]) ∧ Below w.heap.size w w') ∨
      (newE rows = 0 ∧ ∃ g, e = .returned (.tuple #[.pointer (some ⟨g, 0, none⟩), .int .i64 0]) ∧ HS w w' g rows) := by
  refine (New_calls A0 c0 rows w hr0 hn).mono ?_
  rintro e w' (h | ⟨h0, g, F, he, hs, hf⟩)
  · exact .inl h
  · refine .inr ⟨h0, g, he, ⟨⟨_, hs, heapify_ok F, ?_⟩, hk, hn⟩⟩
    rw [← hf]
    exact (heapifyL_perm _ F).map prF
/-- All steps. -/
def mrun : Nat → List (List En) → List (En × Nat)
  | 0, _ => []
  | k + 1, S => match mstep S with
    | none => []
    | some (x, p, S') => (x, p) :: mrun k S'
def mall (S : List (List En)) : List (En × Nat) := mrun (cntL S) S
theorem mall_none {S : List (List En)} (h : mstep S = none) : mall S = [] := by
  unfold mall
  cases hc : cntL S with
  | zero => rfl
  | succ k => rw [mrun, h]
theorem mall_some {S S' : List (List En)} {x : En} {p : Nat} (h : mstep S = some (x, p, S')) : mall S = (x, p) :: mall S' := by
  obtain ⟨l, _, _, _, hc⟩ := mstep_some h
  unfold mall
  rw [hc, mrun, h]
def mgA (a b : Ag) : Ag := match agg_Merge.f a.f0 a.f1 a.f2.f0 a.f2.f1 a.f3 a.f4 b.f0 b.f1 b.f2.f0 b.f2.f1 b.f3 b.f4 with
  | some (r1, r2, r3, r4, r5, r6) => ⟨r1, r2, ⟨r3, r4⟩, r5, r6⟩
  | none => a
/-- One entry more: merged with the last one, if it is of its key. -/
def addM (out : List En) (x : En) : List En := match out.getLast? with
  | none => out ++ [x]
  | some y => if cmpI y.f0 x.f0 = 0 then out.set (out.length - 1) ⟨y.f0, mgA y.f1 x.f1⟩ else out ++ [x]
def allM (S : List (List En)) : List En := ((mall S).map Prod.fst).foldl addM []
def okW (a : Ag) : Prop := 0 ≤ a.f2.f1 ∧ a.f2.f1 < 18446744073709551616
instance (a : Ag) : Decidable (okW a) := by unfold okW; infer_instance
theorem mgA_some {a b : Ag} (ha : okW a) (hb : okW b) : ∃ r1 r2 r3 r4 r5 r6, agg_Merge.f a.f0 a.f1 a.f2.f0 a.f2.f1 a.f3 a.f4 b.f0 b.f1 b.f2.f0 b.f2.f1 b.f3 b.f4 = some (r1, r2, r3, r4, r5, r6) ∧ mgA a b = ⟨r1, r2, ⟨r3, r4⟩, r5, r6⟩ ∧ okW (mgA a b) := by
  obtain ⟨r, hr⟩ : ∃ r, agg_Merge.f a.f0 a.f1 a.f2.f0 a.f2.f1 a.f3 a.f4 b.f0 b.f1 b.f2.f0 b.f2.f1 b.f3 b.f4 = some r ∧ 0 ≤ r.2.2.2.1 ∧ r.2.2.2.1 < 18446744073709551616 := by
    unfold agg_Merge.f
    by_cases h0 : a.f0 = 0
    · rw [if_pos h0]; exact ⟨_, rfl, hb⟩
    · rw [if_neg h0]
      by_cases h1 : b.f0 = 0
      · rw [if_pos h1]; exact ⟨_, rfl, ha⟩
      · rw [if_neg h1]
        unfold wide_Add.f
        rw [if_pos ⟨ha.1, ha.2, hb.1, hb.2⟩]
        refine ⟨_, rfl, ?_⟩
        simp only [mergeS]
        have : 0 ≤ addLo a.f2.f1 b.f2.f1 ∧ addLo a.f2.f1 b.f2.f1 < 18446744073709551616 := by unfold addLo sumLo; omega
        split <;> exact this
  obtain ⟨r1, r2, r3, r4, r5, r6⟩ := r
  have e : mgA a b = ⟨r1, r2, ⟨r3, r4⟩, r5, r6⟩ := by unfold mgA; rw [hr.1]
  exact ⟨r1, r2, r3, r4, r5, r6, hr.1, e, by rw [e]; exact hr.2⟩
end Go.Proofs.Ytihdomhiiolojaa.P
