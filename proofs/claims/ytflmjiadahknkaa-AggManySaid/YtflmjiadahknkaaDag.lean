/- Several operations of a region that draws its order, which make values and memory of their own and change nothing that is there: each is shown once, whatever order comes. No conditions. -/
import Derived.Test.YtflmjiadahknkaaPx0
import Derived.RegionTactic
namespace Go.Proofs.Ytflmjiadahknkaa.P
open Go.RowKit Go.Proofs.YtflmjiadahknkaaW.PrintWords
set_option linter.unusedVariables false
set_option linter.unusedSimpArgs false

theorem info_u8 : (Try.prog.info? 5).map (fun i => (i.zero, i.size, i.bytes)) = some (some (.int .u8 0), 1, 1) := by kernel_rfl
def dstOf (ops : Array Oper) (i : Nat) : Option Tmp := (ops[i]?).bind (·.dst)
def valOf (ops : Array Oper) (a : Act) (i : Nat) : Value := match dstOf ops i with | some d => a.tmps.getD d undef | none => undef
/-- Every order of the operations S, from L to L1, meets each behind what it asks (pre). -/
def okAny (md : Region.Mode) (ops : Array Oper) (S : List Nat) (pre : Nat → List Nat) (L1 : Array Bool) : Nat → Array Bool → Bool
  | 0, L => L == L1
  | n + 1, L => !(Region.ready md ops L).isEmpty && (Region.ready md ops L).all fun i => S.contains i && (L.getD i true == false) && (pre i).all (fun j => S.contains j && (L.getD j false)) && okAny md ops S pre L1 n (L.setIfInBounds i true)
/-- What stands between the operations. -/
structure DagI (ops : Array Oper) (S : List Nat) (F : Nat → Value → World → Nat → Nat → Prop) (a0 : Act) (W0 : World) (L : Array Bool) (lo hi : Nat → Nat) (a : Act) (W : World) : Prop where
  below : Below W0.heap.size W0 W
  defers : a.defers = a0.defers
  size : a.tmps.size = a0.tmps.size
  frame : ∀ t, (∀ i ∈ S, L.getD i false = true → dstOf ops i ≠ some t) → a.tmps.getD t undef = a0.tmps.getD t undef
  facts : ∀ i ∈ S, L.getD i false = true → F i (valOf ops a i) W (lo i) (hi i) ∧ W0.heap.size ≤ lo i ∧ lo i ≤ hi i ∧ hi i ≤ W.heap.size
  apart : ∀ i ∈ S, ∀ j ∈ S, i ≠ j → L.getD i false = true → L.getD j false = true → hi i ≤ lo j ∨ hi j ≤ lo i

section
variable {P : Program} {md : Region.Mode} {ops : Array Oper} {Q : Exit → Act → World → Prop}
theorem getD_put (a : Act) (dst : Option Tmp) (v : Value) (t : Nat) (h : dst ≠ some t) : (a.put dst v).tmps.getD t undef = a.tmps.getD t undef := by
  cases dst with
  | none => rfl
  | some d =>
    have hne : d ≠ t := fun e => h (by rw [e])
    simp [Act.put, Array.getElem?_setIfInBounds_ne hne]
theorem getD_put_same (a : Act) (d : Nat) (v : Value) (h : d < a.tmps.size) : (a.put (some d) v).tmps.getD d undef = v := by
  simp [Act.put, h]
theorem size_put (a : Act) (dst : Option Tmp) (v : Value) : (a.put dst v).tmps.size = a.tmps.size := by cases dst <;> simp [Act.put]
theorem defers_put (a : Act) (dst : Option Tmp) (v : Value) : (a.put dst v).defers = a.defers := by cases dst <;> rfl
theorem getD_set (L : Array Bool) (i j : Nat) (h : (L.setIfInBounds i true).getD j false = true) : j = i ∨ L.getD j false = true := by
  by_cases e : j = i
  · exact .inl e
  · right
    simpa [Array.getElem?_setIfInBounds_ne (fun h => e h.symm)] using h

theorem nodup_apart {f : Nat → Option Tmp} {i j : Nat} {d : Tmp} : ∀ {S : List Nat}, (S.filterMap f).Nodup → i ∈ S → j ∈ S → j ≠ i → f j = some d → f i = some d → False
  | [], _, hi, _, _, _, _ => by cases hi
  | x :: S, hn, hi, hj, hne, h1, h2 => by
    rw [List.filterMap_cons] at hn
    rcases List.mem_cons.1 hi with rfl | hi2
    · rcases List.mem_cons.1 hj with rfl | hj2
      · exact hne rfl
      · rw [h2] at hn
        exact (List.nodup_cons.1 hn).1 (List.mem_filterMap.2 ⟨j, hj2, h1⟩)
    · rcases List.mem_cons.1 hj with rfl | hj2
      · rw [h1] at hn
        exact (List.nodup_cons.1 hn).1 (List.mem_filterMap.2 ⟨i, hi2, h2⟩)
      · have hn2 : (S.filterMap f).Nodup := by
          cases hx : f x with
          | none => rw [hx] at hn; exact hn
          | some d' => rw [hx] at hn; exact (List.nodup_cons.1 hn).2
        exact nodup_apart hn2 hi2 hj2 hne h1 h2

/-- The rule. F: what is known of each value, in the world and of the blocks that the operation made (from lo up to hi). -/
theorem wpAny_dag {S : List Nat} {pre : Nat → List Nat} {L1 : Array Bool} {rest : Nat} {F : Nat → Value → World → Nat → Nat → Prop} {a0 : Act} {W0 : World}
    (hdst : (S.filterMap (dstOf ops)).Nodup) (hin : ∀ i ∈ S, ∀ d, dstOf ops i = some d → d < a0.tmps.size)
    (hmono : ∀ i ∈ S, ∀ v W W' lo hi, hi ≤ W.heap.size → F i v W lo hi → Below W.heap.size W W' → F i v W' lo hi)
    (hstep : ∀ i ∈ S, ∀ (a : Act) (W : World), Below W0.heap.size W0 W → (∀ t, (∀ j ∈ S, dstOf ops j ≠ some t) → a.tmps.getD t undef = a0.tmps.getD t undef) → (∀ j ∈ pre i, ∃ lo hi, F j (valOf ops a j) W lo hi) →
      wpOp P ops Q i (fun a' W' => ∃ v, a' = a.put (dstOf ops i) v ∧ Below W.heap.size W W' ∧ (dstOf ops i = none → v = undef) ∧ F i v W' W.heap.size W'.heap.size) a W)
    (hend : ∀ (lo hi : Nat → Nat) (a : Act) (W : World), DagI ops S F a0 W0 L1 lo hi a W → wpAny P md ops Q rest L1 a W) :
    ∀ (n : Nat) (L : Array Bool) (lo hi : Nat → Nat) (a : Act) (W : World), okAny md ops S pre L1 n L = true → DagI ops S F a0 W0 L lo hi a W → wpAny P md ops Q (n + rest) L a W := by
  intro n
  induction n with
  | zero =>
    intro L lo hi a W hok hI
    have hL : L = L1 := by simpa [okAny] using hok
    subst hL
    rw [Nat.zero_add]
    exact hend lo hi a W hI
  | succ n ih =>
    intro L lo hi a W hok hI
    rw [show n + 1 + rest = (n + rest) + 1 by omega]
    simp only [okAny, Bool.and_eq_true, Bool.not_eq_true', List.all_eq_true] at hok
    obtain ⟨hne, hall⟩ := hok
    refine ⟨fun h => by rw [h] at hne; simp at hne, fun i hi' => ?_⟩
    obtain ⟨⟨⟨hc, hl⟩, hpre⟩, hrec⟩ := hall i hi'
    have hiS : i ∈ S := by simpa using hc
    have hLi : L.getD i true = false := by simpa using hl
    have hLf : ¬ L.getD i false = true := by
      intro h
      rw [Array.getD_eq_getD_getElem?] at h hLi
      cases hx : L[i]? with
      | none => rw [hx] at h; simp at h
      | some b => rw [hx] at h hLi; simp at h hLi; rw [h] at hLi; cases hLi
    refine wpOp_mono ?_ (hstep i hiS a W hI.below (fun t ht => hI.frame t (fun j hj _ => ht j hj)) (fun j hj => ?_))
    · rintro a' W' ⟨v, rfl, hb, hv, hF⟩
      have hdi : ∀ j ∈ S, j ≠ i → ∀ d, dstOf ops j = some d → dstOf ops i ≠ some d := by
        intro j hj hne d h1 h2
        exact nodup_apart hdst hiS hj hne h1 h2
      have hval : ∀ j ∈ S, j ≠ i → valOf ops (a.put (dstOf ops i) v) j = valOf ops a j := by
        intro j hj hne
        unfold valOf
        cases hd : dstOf ops j with
        | none => rfl
        | some d => exact getD_put a _ v d (hdi j hj hne d hd)
      have hvi : valOf ops (a.put (dstOf ops i) v) i = v := by
        unfold valOf
        cases hd : dstOf ops i with
        | none => exact (hv hd).symm
        | some d => exact getD_put_same a d v (by rw [hI.size]; exact hin i hiS d hd)
      refine ih _ (fun j => if j = i then W.heap.size else lo j) (fun j => if j = i then W'.heap.size else hi j) _ W' hrec ⟨hI.below.trans (hb.mono hI.below.size), ?_, ?_, ?_, ?_, ?_⟩
      · rw [defers_put]; exact hI.defers
      · rw [size_put]; exact hI.size
      · intro t ht
        have hti : dstOf ops i ≠ some t := by
          refine ht i hiS ?_
          have hlt : i < L.size := by
            rw [Array.getD_eq_getD_getElem?] at hLi
            cases hx : L[i]? with
            | none => rw [hx] at hLi; simp at hLi
            | some b => exact (Array.getElem?_eq_some_iff.1 hx).1
          simp [hlt]
        rw [getD_put a _ v t hti]
        refine hI.frame t fun j hj hLj => ht j hj ?_
        by_cases e : j = i
        · subst e; exact absurd hLj hLf
        · simpa [Array.getElem?_setIfInBounds_ne (fun h => e h.symm)] using hLj
      · intro j hj hLj
        by_cases e : j = i
        · subst e
          rw [hvi, if_pos rfl, if_pos rfl]
          exact ⟨hF, hI.below.size, hb.size, Nat.le_refl _⟩
        · rw [if_neg e, if_neg e, hval j hj e]
          obtain ⟨h1, h2, h3, h4⟩ := hI.facts j hj ((getD_set L i j hLj).resolve_left e)
          exact ⟨hmono j hj _ _ _ _ _ h4 h1 hb, h2, h3, Nat.le_trans h4 hb.size⟩
      · intro j hj k hk hjk hLj hLk
        by_cases ej : j = i
        · by_cases ek : k = i
          · exact absurd (ej.trans ek.symm) hjk
          · rw [if_pos ej, if_pos ej, if_neg ek, if_neg ek]
            obtain ⟨_, _, _, h4⟩ := hI.facts k hk ((getD_set L i k hLk).resolve_left ek)
            exact .inr h4
        · by_cases ek : k = i
          · rw [if_neg ej, if_neg ej, if_pos ek, if_pos ek]
            obtain ⟨_, _, _, h4⟩ := hI.facts j hj ((getD_set L i j hLj).resolve_left ej)
            exact .inl h4
          · rw [if_neg ej, if_neg ej, if_neg ek, if_neg ek]
            exact hI.apart j hj k hk hjk ((getD_set L i j hLj).resolve_left ej) ((getD_set L i k hLk).resolve_left ek)
    · have := hpre j hj
      obtain ⟨h1, _⟩ := hI.facts j (by simpa using this.1) this.2
      exact ⟨_, _, h1⟩

/-- The frame behind them, written out. -/
def putsS (ops : Array Oper) (vals : Nat → Value) : List Nat → Act → Act
  | [], a => a
  | i :: S, a => putsS ops vals S (a.put (dstOf ops i) (vals i))
theorem puts_far (vals : Nat → Value) (t : Nat) : ∀ (S : List Nat) (a : Act), (∀ i ∈ S, dstOf ops i ≠ some t) → (putsS ops vals S a).tmps.getD t undef = a.tmps.getD t undef
  | [], _, _ => rfl
  | i :: S, a, h => by
    rw [putsS, puts_far vals t S _ (fun j hj => h j (List.mem_cons_of_mem _ hj)), getD_put a _ _ t (h i (List.mem_cons_self ..))]
theorem puts_at (vals : Nat → Value) (t : Nat) : ∀ (S : List Nat) (a : Act), (S.filterMap (dstOf ops)).Nodup → t < a.tmps.size → ∀ i ∈ S, dstOf ops i = some t → (putsS ops vals S a).tmps.getD t undef = vals i
  | [], _, _, _, _, hi, _ => by cases hi
  | x :: S, a, hn, ht, i, hi, hd => by
    rw [putsS]
    by_cases hx : dstOf ops x = some t
    · have hix : i = x := by
        by_cases e : i = x
        · exact e
        · exact (nodup_apart hn (List.mem_cons_self ..) hi e hd hx).elim
      subst hix
      have hfar : ∀ j ∈ S, dstOf ops j ≠ some t := fun j hj e => by
        rw [List.filterMap_cons, hd] at hn
        exact (List.nodup_cons.1 hn).1 (List.mem_filterMap.2 ⟨j, hj, e⟩)
      rw [puts_far vals t S _ hfar, hd, getD_put_same a t _ ht]
    · have hiS : i ∈ S := by
        rcases List.mem_cons.1 hi with rfl | h
        · exact absurd hd hx
        · exact h
      have hn2 : (S.filterMap (dstOf ops)).Nodup := by
        rw [List.filterMap_cons] at hn
        cases he : dstOf ops x with
        | none => rw [he] at hn; exact hn
        | some d' => rw [he] at hn; exact (List.nodup_cons.1 hn).2
      exact puts_at vals t S _ hn2 (by rw [size_put]; exact ht) i hiS hd
theorem puts_size (vals : Nat → Value) : ∀ (S : List Nat) (a : Act), (putsS ops vals S a).tmps.size = a.tmps.size
  | [], _ => rfl
  | i :: S, a => by rw [putsS, puts_size vals S, size_put]
theorem puts_defers (vals : Nat → Value) : ∀ (S : List Nat) (a : Act), (putsS ops vals S a).defers = a.defers
  | [], _ => rfl
  | i :: S, a => by rw [putsS, puts_defers vals S, defers_put]
theorem DagI.act {S : List Nat} {F : Nat → Value → World → Nat → Nat → Prop} {a0 : Act} {W0 : World} {L : Array Bool} {lo hi : Nat → Nat} {a : Act} {W : World} (h : DagI ops S F a0 W0 L lo hi a W)
    (hL : ∀ i ∈ S, L.getD i false = true) (hdst : (S.filterMap (dstOf ops)).Nodup) (hin : ∀ i ∈ S, ∀ d, dstOf ops i = some d → d < a0.tmps.size) : a = putsS ops (valOf ops a) S a0 := by
  have hd : a.defers = (putsS ops (valOf ops a) S a0).defers := by rw [puts_defers]; exact h.defers
  have ht : a.tmps = (putsS ops (valOf ops a) S a0).tmps := by
    have hsz : a.tmps.size = (putsS ops (valOf ops a) S a0).tmps.size := by rw [puts_size]; exact h.size
    apply Array.ext hsz
    intro t h1 h2
    have e1 : a.tmps.getD t undef = a.tmps[t] := by simp [h1]
    have e2 : (putsS ops (valOf ops a) S a0).tmps.getD t undef = (putsS ops (valOf ops a) S a0).tmps[t] := by simp [h2]
    rw [← e1, ← e2]
    by_cases he : ∃ i ∈ S, dstOf ops i = some t
    · obtain ⟨i, hi, hdi⟩ := he
      rw [puts_at (valOf ops a) t S a0 hdst (hin i hi t hdi) i hi hdi]
      unfold valOf
      rw [hdi]
    · have hf : ∀ i ∈ S, dstOf ops i ≠ some t := fun i hi e => he ⟨i, hi, e⟩
      rw [puts_far _ t S a0 hf]
      exact h.frame t (fun i hi _ => hf i hi)
  cases a with
  | mk tm df =>
    cases hp : putsS ops (valOf ops { tmps := tm, defers := df }) S a0 with
    | mk tm2 df2 =>
      rw [hp] at hd ht
      cases hd
      cases ht
      rfl
theorem wpOp_of {i : Nat} {o : Oper} {a : Act} {W : World} {K : Act → World → Prop} (ho : ops[i]? = some o) (hg : o.guard = none) (h : o.wp P a W K Q) : wpOp P ops Q i K a W := by
  unfold wpOp
  rw [ho]
  simp only [Region.wanted, hg, if_true]
  exact .inl h
theorem wanted_of {o : Oper} {a : Act} {W : World} {K : Act → World → Prop} {R : Prop} (hg : o.guard = none) (h : o.wp P a W K Q) : if Region.wanted o (yielded ops a.tmps) = true then o.wp P a W K Q else R := by
  rw [if_pos (by simp [Region.wanted, hg])]
  exact h
/-- A region that draws: the operations S first, in whatever order; then what is left. -/
theorem wp_region_dag {id : Nat} {a : Act} {w : World} (hm : P.follows .mixedOrders = true) (S : List Nat) (pre : Nat → List Nat) (L1 : Array Bool) (rest : Nat) (F : Nat → Value → World → Nat → Nat → Prop)
    (hok : okAny .any ops S pre L1 S.length (Array.replicate ops.size false) = true) (hsz : ops.size = S.length + rest) (hL : ∀ i ∈ S, L1.getD i false = true)
    (hdst : (S.filterMap (dstOf ops)).Nodup) (hin : (S.filterMap (dstOf ops)).all (fun d => decide (d < a.tmps.size)) = true)
    (hmono : ∀ i ∈ S, ∀ v W W' lo hi, hi ≤ W.heap.size → F i v W lo hi → Below W.heap.size W W' → F i v W' lo hi)
    (hstep : ∀ i ∈ S, ∀ (b : Act) (W : World), Below w.heap.size w W → (∀ t, (∀ j ∈ S, dstOf ops j ≠ some t) → b.tmps.getD t undef = a.tmps.getD t undef) → (∀ j ∈ pre i, ∃ lo hi, F j (valOf ops b j) W lo hi) →
      wpOp P ops Q i (fun a' W' => ∃ v, a' = b.put (dstOf ops i) v ∧ Below W.heap.size W W' ∧ (dstOf ops i = none → v = undef) ∧ F i v W' W.heap.size W'.heap.size) b W)
    (hend : ∀ (vals : Nat → Value) (lo hi : Nat → Nat) (W : World), Below w.heap.size w W → (∀ i ∈ S, F i (vals i) W (lo i) (hi i) ∧ w.heap.size ≤ lo i ∧ lo i ≤ hi i ∧ hi i ≤ W.heap.size) →
      (∀ i ∈ S, ∀ j ∈ S, i ≠ j → hi i ≤ lo j ∨ hi j ≤ lo i) → wpAny P .any ops Q rest L1 (putsS ops vals S a) W) : (Code.region id ops true).wp P Q a w := by
  have hin' : ∀ i ∈ S, ∀ d, dstOf ops i = some d → d < a.tmps.size := fun i hi d hd => by
    have := List.all_eq_true.1 hin d (List.mem_filterMap.2 ⟨i, hi, hd⟩)
    simpa using this
  refine wp_region_any hm ?_
  rw [hsz]
  have hw : ∀ W, Below w.heap.size w.drew W → Below w.heap.size w W := fun W h => (Below.refl _ _).drew.trans h
  refine wpAny_dag (S := S) (pre := pre) (L1 := L1) (F := F) (a0 := a) (W0 := w.drew) hdst hin' hmono (fun i hi b W hb hf hp => hstep i hi b W (hw W hb) hf hp) (fun lo hi b W hI => ?_) S.length _ (fun _ => 0) (fun _ => 0) a w.drew (by rw [← hsz]; exact hok) ⟨Below.refl _ _, rfl, rfl, fun _ _ => rfl, ?_, ?_⟩
  · rw [hI.act hL hdst hin']
    exact hend _ lo hi W (hw W hI.below) (fun i hi' => hI.facts i hi' (hL i hi')) (fun i hi' j hj hne => hI.apart i hi' j hj hne (hL i hi') (hL j hj))
  · intro i _ h
    have e : (Array.replicate (S.length + rest) false).getD i false = false := by simp [Array.getElem?_replicate]; split <;> rfl
    rw [e] at h; cases h
  · intro i _ j _ _ h
    have e : (Array.replicate (S.length + rest) false).getD i false = false := by simp [Array.getElem?_replicate]; split <;> rfl
    rw [e] at h; cases h
end
end Go.Proofs.Ytflmjiadahknkaa.P
