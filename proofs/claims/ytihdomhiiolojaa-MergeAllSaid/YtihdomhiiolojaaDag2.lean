/- As XDag, for operations that change what others of the region made: what stands is kept along a relation of worlds. No conditions. -/
import Derived.Test.YtihdomhiiolojaaDag
import Derived.Lib.SlBytesConst
namespace Go.Proofs.Ytihdomhiiolojaa.P
open Go.RowKit Go.Proofs.YtihdomhiiolojaaW.PrintWords
set_option linter.unusedVariables false
set_option linter.unusedSimpArgs false

structure DagJ (ops : Array Oper) (S : List Nat) (F : Nat → Value → World → Prop) (Rl : World → World → Prop) (a0 : Act) (W0 : World) (L : Array Bool) (a : Act) (W : World) : Prop where
  rel : Rl W0 W
  defers : a.defers = a0.defers
  size : a.tmps.size = a0.tmps.size
  frame : ∀ t, (∀ i ∈ S, L.getD i false = true → dstOf ops i ≠ some t) → a.tmps.getD t undef = a0.tmps.getD t undef
  facts : ∀ i ∈ S, L.getD i false = true → F i (valOf ops a i) W
section
variable {P : Program} {md : Region.Mode} {ops : Array Oper} {Q : Exit → Act → World → Prop}
/-- The rule. F: what is known of each value, in the world and of the blocks that the operation made (from lo up to hi). -/
theorem wpAny_dag2 {S : List Nat} {pre : Nat → List Nat} {L0 L1 : Array Bool} {rest : Nat} {F : Nat → Value → World → Prop} {Rl : World → World → Prop} {a0 : Act} {W0 : World} (htr : ∀ A B C, Rl A B → Rl B C → Rl A C) (hok : okDag md ops L0 L1 pre [] S = true)
    (hdst : (S.filterMap (dstOf ops)).Nodup) (hin : ∀ i ∈ S, ∀ d, dstOf ops i = some d → d < a0.tmps.size)
    (hmono : ∀ i ∈ S, ∀ v W W', F i v W → Rl W W' → F i v W')
    (hstep : ∀ i ∈ S, ∀ (a : Act) (W : World), Rl W0 W → (∀ t, (∀ j ∈ S, dstOf ops j ≠ some t) → a.tmps.getD t undef = a0.tmps.getD t undef) → (∀ j ∈ pre i, F j (valOf ops a j) W) →
      wpOp P ops Q i (fun a' W' => ∃ v, a' = a.put (dstOf ops i) v ∧ Rl W W' ∧ (dstOf ops i = none → v = undef) ∧ F i v W') a W)
    (hend : ∀ (a : Act) (W : World), DagJ ops S F Rl a0 W0 L1 a W → wpAny P md ops Q rest L1 a W) :
    ∀ (n : Nat) (L : Array Bool) (a : Act) (W : World), (S.filter fun j => L.getD j false == false).length = n → L.size = ops.size → (∀ k, k ∉ S → L.getD k false = L0.getD k false) → (∀ k, L0.getD k false = true → L.getD k false = true) → (∀ i ∈ S, L.getD i false = true → ∀ j ∈ waits md ops i, L.getD j false = true) → DagJ ops S F Rl a0 W0 L a W → wpAny P md ops Q (n + rest) L a W := by
  obtain ⟨k1, k2, k3, k4, k5, k6⟩ := okDag_spec S [] List.nodup_nil hok
  have hS : S.Nodup := (List.reverse_perm S).nodup_iff.1 (by simpa using k1)
  intro n
  induction n with
  | zero =>
    intro L a W hcnt hsz hout hmon hcl hI
    have hall : ∀ j ∈ S, L.getD j false = true := fun j hj => by
      have := List.length_eq_zero_iff.1 hcnt
      have h2 := (List.filter_eq_nil_iff.1 this) j hj
      simpa using h2
    have hL : L = L1 := by
      apply Array.ext (by rw [hsz, k5])
      intro k h1 h2
      have e1 : L.getD k false = L[k] := by simp [h1]
      have e2 : L1.getD k false = L1[k] := by simp [h2]
      rw [← e1, ← e2, (k6 k (by omega)).1]
      by_cases hk : k ∈ S
      · rw [hall k hk]; simp [hk]
      · rw [hout k hk]; simp [hk]
    subst hL
    rw [Nat.zero_add]
    exact hend a W hI
  | succ n ih =>
    intro L a W hcnt hsz hout hmon hcl hI
    have hex : ∃ i ∈ S, L.getD i false = false := by
      cases hf : S.filter fun j => L.getD j false == false with
      | nil => rw [hf] at hcnt; cases hcnt
      | cons x xs =>
        have : x ∈ S.filter fun j => L.getD j false == false := by rw [hf]; exact List.mem_cons_self ..
        obtain ⟨h1, h2⟩ := List.mem_filter.1 this
        exact ⟨x, h1, by simpa using h2⟩
    rw [show n + 1 + rest = (n + rest) + 1 by omega]
    refine ⟨fun h => ?_, fun i hi' => ?_⟩
    · obtain ⟨i, hiS, hil, hiw⟩ := k3 L hsz (fun j hj => by (cases hj)) hmon hex
      have : i ∈ Region.ready md ops L := mem_ready.2 ⟨(k2 i hiS).1, by rw [getD_tf (by rw [hsz]; exact (k2 i hiS).1)]; exact hil, hiw⟩
      rw [h] at this; cases this
    obtain ⟨hilt, hLi, hwt⟩ := mem_ready.1 hi'
    have hLf0 : L.getD i false = false := by rw [← getD_tf (by rw [hsz]; exact hilt)]; exact hLi
    have hLf : ¬ L.getD i false = true := by rw [hLf0]; decide
    have hiS : i ∈ S := by
      by_cases h : i ∈ S
      · exact h
      · obtain ⟨j, hj, hjl⟩ := hex
        have := clos_listed (L := L) (S.reverse ++ []) (waits md ops i) (fun k hk => hcl k (by simpa using hk)) hwt j ((k6 i hilt).2 h (fun h => by cases h) (by rw [← hout i h]; exact hLf0) j (.inl hj))
        rw [hjl] at this; cases this
    have hpre : ∀ j ∈ pre i, j ∈ S ∧ L.getD j false = true := fun j hj => by
      obtain ⟨h1, h2⟩ := (k2 i hiS).2.2 j hj
      exact ⟨h1.resolve_right (fun h => by cases h), hwt j h2⟩
    have hrec := filter_set hS hiS hLf0 (by rw [hsz]; exact hilt)
    refine wpOp_mono ?_ (hstep i hiS a W hI.rel (fun t ht => hI.frame t (fun j hj _ => ht j hj)) (fun j hj => ?_))
    · rintro a' W' ⟨v, rfl, hb, hv, hF⟩
      have hdi : ∀ j ∈ S, j ≠ i → ∀ d, dstOf ops j = some d → dstOf ops i ≠ some d := fun j hj hne d h1 h2 => nodup_apart hdst hiS hj hne h1 h2
      have hval : ∀ j ∈ S, j ≠ i → valOf ops (a.put (dstOf ops i) v) j = valOf ops a j := by
        intro j hj hne
        unfold valOf
        cases hd : dstOf ops j with
        | none => rfl
        | some d => exact getD_put a _ v d (hdi j hj hne d hd)
      have hvi : valOf ops (a.put (dstOf ops i) v) i = v := by
        unfold valOf
        cases hd : dstOf ops i with
        | none => exact (hv hd).symm
        | some d => exact getD_put_same a d v (by rw [hI.size]; exact hin i hiS d hd)
      have hfar : ∀ j, j ≠ i → (L.setIfInBounds i true).getD j false = L.getD j false := fun j hj => by simp [Array.getElem?_setIfInBounds_ne (fun h => hj h.symm)]
      refine ih _ _ W' (by omega) (by simpa using hsz) (fun k hk => by rw [hfar k (fun e => hk (by rw [e]; exact hiS))]; exact hout k hk) (fun k hk => ?_) (fun k hk hkl j hj => ?_) ⟨htr _ _ _ hI.rel hb, ?_, ?_, ?_, ?_⟩
      · by_cases e : k = i
        · subst e; simp [hsz, hilt]
        · rw [hfar k e]; exact hmon k hk
      · have hjl : L.getD j false = true := by
          by_cases e : k = i
          · subst e; exact hwt j hj
          · exact hcl k hk (by rw [← hfar k e]; exact hkl) j hj
        by_cases e : j = i
        · subst e; simp [hsz, hilt]
        · rw [hfar j e]; exact hjl
      · rw [defers_put]; exact hI.defers
      · rw [size_put]; exact hI.size
      · intro t ht
        have hti : dstOf ops i ≠ some t := ht i hiS (by simp [hsz, hilt])
        rw [getD_put a _ v t hti]
        refine hI.frame t fun j hj hLj => ht j hj ?_
        by_cases e : j = i
        · subst e; exact absurd hLj hLf
        · rw [hfar j e]; exact hLj
      · intro j hj hLj
        by_cases e : j = i
        · subst e
          rw [hvi]
          exact hF
        · rw [hval j hj e]
          exact hmono j hj _ _ _ (hI.facts j hj ((getD_set L i j hLj).resolve_left e)) hb
    · obtain ⟨h1, h2⟩ := hpre j hj
      exact hI.facts j h1 h2

theorem DagJ.act {S : List Nat} {F : Nat → Value → World → Prop} {Rl : World → World → Prop} {a0 : Act} {W0 : World} {L : Array Bool} {a : Act} {W : World} (h : DagJ ops S F Rl a0 W0 L a W)
    (hL : ∀ i ∈ S, L.getD i false = true) (hdst : (S.filterMap (dstOf ops)).Nodup) (hin : ∀ i ∈ S, ∀ d, dstOf ops i = some d → d < a0.tmps.size) : a = putsS ops (valOf ops a) S a0 := by
  have hd : a.defers = (putsS ops (valOf ops a) S a0).defers := by rw [puts_defers]; exact h.defers
  have ht : a.tmps = (putsS ops (valOf ops a) S a0).tmps := by
    have hsz : a.tmps.size = (putsS ops (valOf ops a) S a0).tmps.size := by rw [puts_size]; exact h.size
    apply Array.ext hsz
    intro t h1 h2
    have e1 : a.tmps.getD t undef = a.tmps[t] := by simp [h1]
    have e2 : (putsS ops (valOf ops a) S a0).tmps.getD t undef = (putsS ops (valOf ops a) S a0).tmps[t] := by simp [h2]
    rw [← e1, ← e2]
    by_cases he : ∃ i ∈ S, dstOf ops i = some t
    · obtain ⟨i, hi, hdi⟩ := he
      rw [puts_at (valOf ops a) t S a0 hdst (hin i hi t hdi) i hi hdi]
      unfold valOf
      rw [hdi]
    · have hf : ∀ i ∈ S, dstOf ops i ≠ some t := fun i hi e => he ⟨i, hi, e⟩
      rw [puts_far _ t S a0 hf]
      exact h.frame t (fun i hi _ => hf i hi)
  cases a with
  | mk tm df =>
    cases hp : putsS ops (valOf ops { tmps := tm, defers := df }) S a0 with
    | mk tm2 df2 =>
      rw [hp] at hd ht
      cases hd
      cases ht
      rfl
/-- A region that draws: the operations S first, in whatever order; then what is left. -/
theorem wp_region_dag2 {id : Nat} {a : Act} {w : World} (hm : P.follows .mixedOrders = true) (S : List Nat) (pre : Nat → List Nat) (L1 : Array Bool) (rest : Nat) (F : Nat → Value → World → Prop) (Rl : World → World → Prop) (hrefl : ∀ A, Rl w A → Rl A A) (hdr : Rl w w.drew)
    (htr : ∀ A B C, Rl A B → Rl B C → Rl A C)
    (hok : okDag .any ops (Array.replicate ops.size false) L1 pre [] S = true) (hsz : ops.size = S.length + rest) (hL : ∀ i ∈ S, L1.getD i false = true)
    (hdst : (S.filterMap (dstOf ops)).Nodup) (hin : (S.filterMap (dstOf ops)).all (fun d => decide (d < a.tmps.size)) = true)
    (hmono : ∀ i ∈ S, ∀ v W W', F i v W → Rl W W' → F i v W')
    (hstep : ∀ i ∈ S, ∀ (b : Act) (W : World), Rl w W → (∀ t, (∀ j ∈ S, dstOf ops j ≠ some t) → b.tmps.getD t undef = a.tmps.getD t undef) → (∀ j ∈ pre i, F j (valOf ops b j) W) →
      wpOp P ops Q i (fun a' W' => ∃ v, a' = b.put (dstOf ops i) v ∧ Rl W W' ∧ (dstOf ops i = none → v = undef) ∧ F i v W') b W)
    (hend : ∀ (vals : Nat → Value) (W : World), Rl w W → (∀ i ∈ S, F i (vals i) W) → wpAny P .any ops Q rest L1 (putsS ops vals S a) W) : (Code.region id ops true).wp P Q a w := by
  have hin' : ∀ i ∈ S, ∀ d, dstOf ops i = some d → d < a.tmps.size := fun i hi d hd => by
    have := List.all_eq_true.1 hin d (List.mem_filterMap.2 ⟨i, hi, hd⟩)
    simpa using this
  refine wp_region_any hm ?_
  rw [hsz]
  have e0 : ∀ k : Nat, (Array.replicate (S.length + rest) false).getD k false = false := fun k => by simp [Array.getElem?_replicate]; split <;> rfl
  refine wpAny_dag2 (Rl := fun A B => Rl w A → Rl A B) (S := S) (pre := pre) (L0 := Array.replicate (S.length + rest) false) (L1 := L1) (F := fun i v W => Rl w W ∧ F i v W) (a0 := a) (W0 := w.drew) (fun A B C h1 h2 hA => htr _ _ _ (h1 hA) (h2 (htr _ _ _ hA (h1 hA)))) (by rw [← hsz]; exact hok) hdst hin' (fun i hi v W W' h hr => ⟨htr _ _ _ h.1 (hr h.1), hmono i hi v W W' h.2 (hr h.1)⟩) (fun i hi b W hb hf hp => ?_) (fun b W hI => ?_) S.length _ a w.drew ?_ (by simp [hsz]) (fun _ _ => rfl) (fun k h => by rw [e0] at h; cases h) (fun k _ h => by rw [e0] at h; cases h) ⟨fun h => ?_, rfl, rfl, fun _ _ => rfl, ?_⟩
  · have hw : Rl w W := htr _ _ _ hdr (hb hdr)
    refine wpOp_mono ?_ (hstep i hi b W hw hf (fun j hj => (hp j hj).2))
    rintro a' W' ⟨v, h1, h2, h3, h4⟩
    exact ⟨v, h1, fun _ => h2, h3, htr _ _ _ hw h2, h4⟩
  · rw [hI.act hL hdst hin']
    exact hend _ W (htr _ _ _ hdr (hI.rel hdr)) (fun i hi' => (hI.facts i hi' (hL i hi')).2)
  · rw [List.filter_eq_self.2 (fun i _ => by rw [e0]; rfl)]
  · exact hrefl _ h
  · intro i _ h
    rw [e0] at h; cases h
def putsL : List (Option Tmp × Value) → Act → Act
  | [], a => a
  | (d, v) :: l, a => putsL l (a.put d v)
theorem putsS_eq (vals : Nat → Value) : ∀ (S : List Nat) (ds : List (Option Tmp)) (a : Act), S.map (dstOf ops) = ds → putsS ops vals S a = putsL (ds.zip (S.map vals)) a
  | [], ds, a, h => by subst h; rfl
  | i :: S, ds, a, h => by
    subst h
    rw [putsS, putsS_eq vals S _ _ rfl]
    rfl
/-- The same, the destinations written out. -/
theorem wp_region_dag3 {id : Nat} {a : Act} {w : World} (hm : P.follows .mixedOrders = true) (S : List Nat) (pre : Nat → List Nat) (L1 : Array Bool) (rest : Nat) (ds : List (Option Tmp)) (hds : S.map (dstOf ops) = ds) (F : Nat → Value → World → Prop) (Rl : World → World → Prop) (hrefl : ∀ A, Rl w A → Rl A A) (hdr : Rl w w.drew)
    (htr : ∀ A B C, Rl A B → Rl B C → Rl A C)
    (hok : okDag .any ops (Array.replicate ops.size false) L1 pre [] S = true) (hsz : ops.size = S.length + rest) (hL : ∀ i ∈ S, L1.getD i false = true)
    (hdst : (S.filterMap (dstOf ops)).Nodup) (hin : (S.filterMap (dstOf ops)).all (fun d => decide (d < a.tmps.size)) = true)
    (hmono : ∀ i ∈ S, ∀ v W W', F i v W → Rl W W' → F i v W')
    (hstep : ∀ i ∈ S, ∀ (b : Act) (W : World), Rl w W → (∀ t, (∀ j ∈ S, dstOf ops j ≠ some t) → b.tmps.getD t undef = a.tmps.getD t undef) → (∀ j ∈ pre i, F j (valOf ops b j) W) →
      wpOp P ops Q i (fun a' W' => ∃ v, a' = b.put (dstOf ops i) v ∧ Rl W W' ∧ (dstOf ops i = none → v = undef) ∧ F i v W') b W)
    (hend : ∀ (vals : Nat → Value) (W : World), Rl w W → (∀ i ∈ S, F i (vals i) W) → wpAny P .any ops Q rest L1 (putsL (ds.zip (S.map vals)) a) W) : (Code.region id ops true).wp P Q a w :=
  wp_region_dag2 hm S pre L1 rest F Rl hrefl hdr htr hok hsz hL hdst hin hmono hstep (fun vals W h1 h2 => by rw [putsS_eq vals S ds a hds]; exact hend vals W h1 h2)
end
end Go.Proofs.Ytihdomhiiolojaa.P
