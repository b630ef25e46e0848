/- Several operations of a region that draws its order, which make values and memory of their own and change nothing that is there: each is shown once, whatever order comes. No conditions. -/
import Derived.Test.YteomanpaladdjaaPx0
import Derived.RegionTactic
namespace Go.Proofs.Yteomanpaladdjaa.P
open Go.RowKit Go.Proofs.YteomanpaladdjaaW.PrintWords
set_option linter.unusedVariables false
set_option linter.unusedSimpArgs false

theorem info_u8 : (Try.prog.info? 5).map (fun i => (i.zero, i.size, i.bytes)) = some (some (.int .u8 0), 1, 1) := by kernel_rfl
def dstOf (ops : Array Oper) (i : Nat) : Option Tmp := (ops[i]?).bind (·.dst)
def valOf (ops : Array Oper) (a : Act) (i : Nat) : Value := match dstOf ops i with | some d => a.tmps.getD d undef | none => undef
/-- The operations that operation i waits for. -/
def waits (md : Region.Mode) (ops : Array Oper) (i : Nat) : List Nat := ((ops[i]?).map fun o => (o.after.toList.filter (Region.binds md)).map (·.on)).getD []
/-- .. directly or through others. -/
def clos (md : Region.Mode) (ops : Array Oper) : List Nat → List Nat → List Nat
  | [], C => C
  | i :: done, C => clos md ops done (if C.contains i then waits md ops i ++ C else C)
/-- From L0 on nothing but the operations S can come up, each behind what it asks (pre), till all of them are done: then L1 stands. -/
def okDag (md : Region.Mode) (ops : Array Oper) (L0 L1 : Array Bool) (pre : Nat → List Nat) : List Nat → List Nat → Bool
  | done, [] => (L0.size == ops.size && L1.size == ops.size) && (List.range ops.size).all fun k => (L1.getD k false == (done.contains k || L0.getD k false)) && (done.contains k || L0.getD k false || done.all fun i => (clos md ops done (waits md ops k)).contains i)
  | done, i :: S => (decide (i < ops.size) && !done.contains i && (L0.getD i true == false)) && ((waits md ops i).all fun j => done.contains j || L0.getD j false) && ((pre i).all fun j => done.contains j && (waits md ops i).contains j) && okDag md ops L0 L1 pre (i :: done) S
/-- What stands between the operations. -/
structure DagI (ops : Array Oper) (S : List Nat) (F : Nat → Value → World → Nat → Nat → Prop) (a0 : Act) (W0 : World) (L : Array Bool) (lo hi : Nat → Nat) (a : Act) (W : World) : Prop where
  below : Below W0.heap.size W0 W
  defers : a.defers = a0.defers
  size : a.tmps.size = a0.tmps.size
  frame : ∀ t, (∀ i ∈ S, L.getD i false = true → dstOf ops i ≠ some t) → a.tmps.getD t undef = a0.tmps.getD t undef
  facts : ∀ i ∈ S, L.getD i false = true → F i (valOf ops a i) W (lo i) (hi i) ∧ W0.heap.size ≤ lo i ∧ lo i ≤ hi i ∧ hi i ≤ W.heap.size
  apart : ∀ i ∈ S, ∀ j ∈ S, i ≠ j → L.getD i false = true → L.getD j false = true → hi i ≤ lo j ∨ hi j ≤ lo i

section
variable {P : Program} {md : Region.Mode} {ops : Array Oper} {Q : Exit → Act → World → Prop}
theorem getD_put (a : Act) (dst : Option Tmp) (v : Value) (t : Nat) (h : dst ≠ some t) : (a.put dst v).tmps.getD t undef = a.tmps.getD t undef := by
  cases dst with
  | none => rfl
  | some d =>
    have hne : d ≠ t := fun e => h (by rw [e])
    simp [Act.put, Array.getElem?_setIfInBounds_ne hne]
theorem getD_put_same (a : Act) (d : Nat) (v : Value) (h : d < a.tmps.size) : (a.put (some d) v).tmps.getD d undef = v := by
  simp [Act.put, h]
theorem size_put (a : Act) (dst : Option Tmp) (v : Value) : (a.put dst v).tmps.size = a.tmps.size := by cases dst <;> simp [Act.put]
theorem defers_put (a : Act) (dst : Option Tmp) (v : Value) : (a.put dst v).defers = a.defers := by cases dst <;> rfl
theorem getD_set (L : Array Bool) (i j : Nat) (h : (L.setIfInBounds i true).getD j false = true) : j = i ∨ L.getD j false = true := by
  by_cases e : j = i
  · exact .inl e
  · right
    simpa [Array.getElem?_setIfInBounds_ne (fun h => e h.symm)] using h

theorem nodup_apart {f : Nat → Option Tmp} {i j : Nat} {d : Tmp} : ∀ {S : List Nat}, (S.filterMap f).Nodup → i ∈ S → j ∈ S → j ≠ i → f j = some d → f i = some d → False
  | [], _, hi, _, _, _, _ => by cases hi
  | x :: S, hn, hi, hj, hne, h1, h2 => by
    rw [List.filterMap_cons] at hn
    rcases List.mem_cons.1 hi with rfl | hi2
    · rcases List.mem_cons.1 hj with rfl | hj2
      · exact hne rfl
      · rw [h2] at hn
        exact (List.nodup_cons.1 hn).1 (List.mem_filterMap.2 ⟨j, hj2, h1⟩)
    · rcases List.mem_cons.1 hj with rfl | hj2
      · rw [h1] at hn
        exact (List.nodup_cons.1 hn).1 (List.mem_filterMap.2 ⟨i, hi2, h2⟩)
      · have hn2 : (S.filterMap f).Nodup := by
          cases hx : f x with
          | none => rw [hx] at hn; exact hn
          | some d' => rw [hx] at hn; exact (List.nodup_cons.1 hn).2
        exact nodup_apart hn2 hi2 hj2 hne h1 h2

theorem mem_ready {L : Array Bool} {i : Nat} : i ∈ Region.ready md ops L ↔ i < ops.size ∧ L.getD i true = false ∧ ∀ j ∈ waits md ops i, L.getD j false = true := by
  unfold Region.ready waits
  rw [List.mem_filter, List.mem_range]
  constructor
  · rintro ⟨h1, h2⟩
    simp only [Bool.and_eq_true, Bool.not_eq_true'] at h2
    refine ⟨h1, h2.1, fun j hj => ?_⟩
    have h3 := h2.2
    rw [Array.getElem?_eq_getElem h1] at h3 hj
    simp only [Option.map_some, Option.getD_some, List.mem_map, List.mem_filter, Array.mem_toList_iff] at h3 hj
    obtain ⟨e, ⟨he, hb⟩, rfl⟩ := hj
    have := Array.all_eq_true_iff_forall_mem.1 h3 e he
    simpa [hb] using this
  · rintro ⟨h1, h2, h3⟩
    refine ⟨h1, ?_⟩
    simp only [Bool.and_eq_true, Bool.not_eq_true']
    refine ⟨h2, ?_⟩
    rw [Array.getElem?_eq_getElem h1] at h3 ⊢
    simp only [Option.map_some, Option.getD_some, List.mem_map, List.mem_filter, Array.mem_toList_iff] at h3 ⊢
    refine Array.all_eq_true_iff_forall_mem.2 fun e he => ?_
    by_cases hb : Region.binds md e = true
    · simp [h3 e.on ⟨e, ⟨he, hb⟩, rfl⟩]
    · simp [hb]
theorem getD_tf {L : Array Bool} {i : Nat} (h : i < L.size) : L.getD i true = L.getD i false := by simp [h]
/-- What okDag tells. -/
theorem okDag_spec {L0 L1 : Array Bool} {pre : Nat → List Nat} : ∀ (S done : List Nat), done.Nodup → okDag md ops L0 L1 pre done S = true →
    (S.reverse ++ done).Nodup ∧ (∀ i ∈ S, i < ops.size ∧ L0.getD i true = false ∧ (∀ j ∈ pre i, (j ∈ S ∨ j ∈ done) ∧ j ∈ waits md ops i)) ∧
    (∀ L : Array Bool, L.size = ops.size → (∀ j ∈ done, L.getD j false = true) → (∀ k, L0.getD k false = true → L.getD k false = true) → (∃ i ∈ S, L.getD i false = false) → ∃ i ∈ S, L.getD i false = false ∧ ∀ j ∈ waits md ops i, L.getD j false = true) ∧
    (L0.size = ops.size ∧ L1.size = ops.size ∧ ∀ k, k < ops.size → L1.getD k false = ((S.contains k || done.contains k) || L0.getD k false) ∧ (k ∉ S → k ∉ done → L0.getD k false = false → ∀ i, (i ∈ S ∨ i ∈ done) → i ∈ clos md ops (S.reverse ++ done) (waits md ops k)))
  | [], done, hn, h => by
    simp only [okDag, Bool.and_eq_true, List.all_eq_true, List.mem_range, beq_iff_eq, Bool.or_eq_true] at h
    obtain ⟨⟨h1, h2⟩, h3⟩ := h
    refine ⟨by simpa using hn, fun i hi => by (cases hi), fun L _ _ _ ⟨i, hi, _⟩ => by (cases hi), h1, h2, fun k hk => ⟨by rw [(h3 k hk).1]; simp, fun _ hd hl i hi => ?_⟩⟩
    rcases (h3 k hk).2 with (h | h) | h
    · exact absurd (by simpa using h) hd
    · rw [h] at hl; cases hl
    · have := h i (by rcases hi with hi | hi; cases hi; exact hi)
      simpa using this
  | i :: S, done, hn, h => by
    simp only [okDag, Bool.and_eq_true, List.all_eq_true, beq_iff_eq, Bool.or_eq_true, Bool.not_eq_true', decide_eq_true_eq] at h
    obtain ⟨⟨⟨⟨⟨h1, h2⟩, h3⟩, h4⟩, h5⟩, h6⟩ := h
    have hni : i ∉ done := by simpa using h2
    obtain ⟨a1, a2, a3, a4, a5, a6⟩ := okDag_spec S (i :: done) (List.nodup_cons.2 ⟨hni, hn⟩) h6
    refine ⟨by simpa using a1, fun k hk => ?_, fun L hs hd hl he => ?_, a4, a5, fun k hk => ⟨?_, fun ks kd kl q hq => ?_⟩⟩
    · rcases List.mem_cons.1 hk with rfl | hk
      · refine ⟨h1, h3, fun j hj => ?_⟩
        have := h5 j hj
        exact ⟨.inr (by simpa using this.1), by simpa using this.2⟩
      · obtain ⟨b1, b2, b3⟩ := a2 k hk
        refine ⟨b1, b2, fun j hj => ⟨?_, (b3 j hj).2⟩⟩
        rcases (b3 j hj).1 with h | h
        · exact .inl (List.mem_cons_of_mem _ h)
        · rcases List.mem_cons.1 h with rfl | h
          · exact .inl (List.mem_cons_self ..)
          · exact .inr h
    · by_cases hi : L.getD i false = true
      · obtain ⟨k, hk, hkf⟩ := he
        rcases List.mem_cons.1 hk with rfl | hk
        · rw [hi] at hkf; cases hkf
        · obtain ⟨q, hq, hq2⟩ := a3 L hs (fun j hj => by rcases List.mem_cons.1 hj with rfl | hj; exact hi; exact hd j hj) hl ⟨k, hk, hkf⟩
          exact ⟨q, List.mem_cons_of_mem _ hq, hq2⟩
      · refine ⟨i, List.mem_cons_self .., by simpa using hi, fun j hj => ?_⟩
        rcases h4 j hj with h | h
        · exact hd j (by simpa using h)
        · exact hl j h
    · rw [(a6 k hk).1]
      simp only [List.contains_cons]
      cases (k == i) <;> cases S.contains k <;> simp
    · rw [List.reverse_cons, List.append_assoc]
      refine (a6 k hk).2 (fun h => ks (List.mem_cons_of_mem _ h)) (fun h => ?_) kl q ?_
      · rcases List.mem_cons.1 h with rfl | h
        · exact ks (List.mem_cons_self ..)
        · exact kd h
      · rcases hq with hq | hq
        · rcases List.mem_cons.1 hq with rfl | hq
          · exact .inr (List.mem_cons_self ..)
          · exact .inl hq
        · exact .inr (List.mem_cons_of_mem _ hq)
theorem clos_listed {L : Array Bool} : ∀ (done C : List Nat), (∀ i ∈ done, L.getD i false = true → ∀ j ∈ waits md ops i, L.getD j false = true) → (∀ j ∈ C, L.getD j false = true) → ∀ j ∈ clos md ops done C, L.getD j false = true
  | [], C, _, hC => hC
  | i :: done, C, hd, hC => by
    rw [clos]
    refine clos_listed done _ (fun k hk => hd k (List.mem_cons_of_mem _ hk)) ?_
    by_cases h : C.contains i = true
    · rw [if_pos h]
      intro j hj
      rcases List.mem_append.1 hj with hj | hj
      · exact hd i (List.mem_cons_self ..) (hC i (by simpa using h)) j hj
      · exact hC j hj
    · rw [if_neg h]; exact hC
theorem filter_set {S : List Nat} (hn : S.Nodup) {L : Array Bool} {i : Nat} (hi : i ∈ S) (hl : L.getD i false = false) (hs : i < L.size) : ((S.filter fun j => L.getD j false == false).length) = (S.filter fun j => (L.setIfInBounds i true).getD j false == false).length + 1 := by
  induction S with
  | nil => cases hi
  | cons x S ih =>
    have hx : ∀ j, j ≠ i → (L.setIfInBounds i true).getD j false = L.getD j false := fun j hj => by simp [Array.getElem?_setIfInBounds_ne (fun h => hj h.symm)]
    have hii : (L.setIfInBounds i true).getD i false = true := by simp [hs]
    rcases List.mem_cons.1 hi with rfl | hi2
    · have hnot : ∀ j ∈ S, j ≠ i := fun j hj e => by subst e; exact (List.nodup_cons.1 hn).1 hj
      rw [List.filter_cons, List.filter_cons, hl, hii]
      have e : S.filter (fun j => (L.setIfInBounds i true).getD j false == false) = S.filter (fun j => L.getD j false == false) := List.filter_congr fun j hj => by rw [hx j (hnot j hj)]
      rw [e]; simp
    · have hne : x ≠ i := fun e => by subst e; exact (List.nodup_cons.1 hn).1 hi2
      have := ih (List.nodup_cons.1 hn).2 hi2
      rw [List.filter_cons, List.filter_cons, hx x hne]
      split <;> simp_all

/-- The rule. F: what is known of each value, in the world and of the blocks that the operation made (from lo up to hi). -/
theorem wpAny_dag {S : List Nat} {pre : Nat → List Nat} {L0 L1 : Array Bool} {rest : Nat} {F : Nat → Value → World → Nat → Nat → Prop} {a0 : Act} {W0 : World} (hok : okDag md ops L0 L1 pre [] S = true)
    (hdst : (S.filterMap (dstOf ops)).Nodup) (hin : ∀ i ∈ S, ∀ d, dstOf ops i = some d → d < a0.tmps.size)
    (hmono : ∀ i ∈ S, ∀ v W W' lo hi, hi ≤ W.heap.size → F i v W lo hi → Below W.heap.size W W' → F i v W' lo hi)
    (hstep : ∀ i ∈ S, ∀ (a : Act) (W : World), Below W0.heap.size W0 W → (∀ t, (∀ j ∈ S, dstOf ops j ≠ some t) → a.tmps.getD t undef = a0.tmps.getD t undef) → (∀ j ∈ pre i, ∃ lo hi, F j (valOf ops a j) W lo hi) →
      wpOp P ops Q i (fun a' W' => ∃ v, a' = a.put (dstOf ops i) v ∧ Below W.heap.size W W' ∧ (dstOf ops i = none → v = undef) ∧ F i v W' W.heap.size W'.heap.size) a W)
    (hend : ∀ (lo hi : Nat → Nat) (a : Act) (W : World), DagI ops S F a0 W0 L1 lo hi a W → wpAny P md ops Q rest L1 a W) :
    ∀ (n : Nat) (L : Array Bool) (lo hi : Nat → Nat) (a : Act) (W : World), (S.filter fun j => L.getD j false == false).length = n → L.size = ops.size → (∀ k, k ∉ S → L.getD k false = L0.getD k false) → (∀ k, L0.getD k false = true → L.getD k false = true) → (∀ i ∈ S, L.getD i false = true → ∀ j ∈ waits md ops i, L.getD j false = true) → DagI ops S F a0 W0 L lo hi a W → wpAny P md ops Q (n + rest) L a W := by
  obtain ⟨k1, k2, k3, k4, k5, k6⟩ := okDag_spec S [] List.nodup_nil hok
  have hS : S.Nodup := (List.reverse_perm S).nodup_iff.1 (by simpa using k1)
  intro n
  induction n with
  | zero =>
    intro L lo hi a W hcnt hsz hout hmon hcl hI
    have hall : ∀ j ∈ S, L.getD j false = true := fun j hj => by
      have := List.length_eq_zero_iff.1 hcnt
      have h2 := (List.filter_eq_nil_iff.1 this) j hj
      simpa using h2
    have hL : L = L1 := by
      apply Array.ext (by rw [hsz, k5])
      intro k h1 h2
      have e1 : L.getD k false = L[k] := by simp [h1]
      have e2 : L1.getD k false = L1[k] := by simp [h2]
      rw [← e1, ← e2, (k6 k (by omega)).1]
      by_cases hk : k ∈ S
      · rw [hall k hk]; simp [hk]
      · rw [hout k hk]; simp [hk]
    subst hL
    rw [Nat.zero_add]
    exact hend lo hi a W hI
  | succ n ih =>
    intro L lo hi a W hcnt hsz hout hmon hcl hI
    have hex : ∃ i ∈ S, L.getD i false = false := by
      cases hf : S.filter fun j => L.getD j false == false with
      | nil => rw [hf] at hcnt; cases hcnt
      | cons x xs =>
        have : x ∈ S.filter fun j => L.getD j false == false := by rw [hf]; exact List.mem_cons_self ..
        obtain ⟨h1, h2⟩ := List.mem_filter.1 this
        exact ⟨x, h1, by simpa using h2⟩
    rw [show n + 1 + rest = (n + rest) + 1 by omega]
    refine ⟨fun h => ?_, fun i hi' => ?_⟩
    · obtain ⟨i, hiS, hil, hiw⟩ := k3 L hsz (fun j hj => by (cases hj)) hmon hex
      have : i ∈ Region.ready md ops L := mem_ready.2 ⟨(k2 i hiS).1, by rw [getD_tf (by rw [hsz]; exact (k2 i hiS).1)]; exact hil, hiw⟩
      rw [h] at this; cases this
    obtain ⟨hilt, hLi, hwt⟩ := mem_ready.1 hi'
    have hLf0 : L.getD i false = false := by rw [← getD_tf (by rw [hsz]; exact hilt)]; exact hLi
    have hLf : ¬ L.getD i false = true := by rw [hLf0]; decide
    have hiS : i ∈ S := by
      by_cases h : i ∈ S
      · exact h
      · obtain ⟨j, hj, hjl⟩ := hex
        have := clos_listed (L := L) (S.reverse ++ []) (waits md ops i) (fun k hk => hcl k (by simpa using hk)) hwt j ((k6 i hilt).2 h (fun h => by cases h) (by rw [← hout i h]; exact hLf0) j (.inl hj))
        rw [hjl] at this; cases this
    have hpre : ∀ j ∈ pre i, j ∈ S ∧ L.getD j false = true := fun j hj => by
      obtain ⟨h1, h2⟩ := (k2 i hiS).2.2 j hj
      exact ⟨h1.resolve_right (fun h => by cases h), hwt j h2⟩
    have hrec := filter_set hS hiS hLf0 (by rw [hsz]; exact hilt)
    refine wpOp_mono ?_ (hstep i hiS a W hI.below (fun t ht => hI.frame t (fun j hj _ => ht j hj)) (fun j hj => ?_))
    · rintro a' W' ⟨v, rfl, hb, hv, hF⟩
      have hdi : ∀ j ∈ S, j ≠ i → ∀ d, dstOf ops j = some d → dstOf ops i ≠ some d := fun j hj hne d h1 h2 => nodup_apart hdst hiS hj hne h1 h2
      have hval : ∀ j ∈ S, j ≠ i → valOf ops (a.put (dstOf ops i) v) j = valOf ops a j := by
        intro j hj hne
        unfold valOf
        cases hd : dstOf ops j with
        | none => rfl
        | some d => exact getD_put a _ v d (hdi j hj hne d hd)
      have hvi : valOf ops (a.put (dstOf ops i) v) i = v := by
        unfold valOf
        cases hd : dstOf ops i with
        | none => exact (hv hd).symm
        | some d => exact getD_put_same a d v (by rw [hI.size]; exact hin i hiS d hd)
      have hfar : ∀ j, j ≠ i → (L.setIfInBounds i true).getD j false = L.getD j false := fun j hj => by simp [Array.getElem?_setIfInBounds_ne (fun h => hj h.symm)]
      refine ih _ (fun j => if j = i then W.heap.size else lo j) (fun j => if j = i then W'.heap.size else hi j) _ W' (by omega) (by simpa using hsz) (fun k hk => by rw [hfar k (fun e => hk (by rw [e]; exact hiS))]; exact hout k hk) (fun k hk => ?_) (fun k hk hkl j hj => ?_) ⟨hI.below.trans (hb.mono hI.below.size), ?_, ?_, ?_, ?_, ?_⟩
      · by_cases e : k = i
        · subst e; simp [hsz, hilt]
        · rw [hfar k e]; exact hmon k hk
      · have hjl : L.getD j false = true := by
          by_cases e : k = i
          · subst e; exact hwt j hj
          · exact hcl k hk (by rw [← hfar k e]; exact hkl) j hj
        by_cases e : j = i
        · subst e; simp [hsz, hilt]
        · rw [hfar j e]; exact hjl
      · rw [defers_put]; exact hI.defers
      · rw [size_put]; exact hI.size
      · intro t ht
        have hti : dstOf ops i ≠ some t := ht i hiS (by simp [hsz, hilt])
        rw [getD_put a _ v t hti]
        refine hI.frame t fun j hj hLj => ht j hj ?_
        by_cases e : j = i
        · subst e; exact absurd hLj hLf
        · rw [hfar j e]; exact hLj
      · intro j hj hLj
        by_cases e : j = i
        · subst e
          rw [hvi, if_pos rfl, if_pos rfl]
          exact ⟨hF, hI.below.size, hb.size, Nat.le_refl _⟩
        · rw [if_neg e, if_neg e, hval j hj e]
          obtain ⟨h1, h2, h3, h4⟩ := hI.facts j hj ((getD_set L i j hLj).resolve_left e)
          exact ⟨hmono j hj _ _ _ _ _ h4 h1 hb, h2, h3, Nat.le_trans h4 hb.size⟩
      · intro j hj k hk hjk hLj hLk
        by_cases ej : j = i
        · by_cases ek : k = i
          · exact absurd (ej.trans ek.symm) hjk
          · rw [if_pos ej, if_pos ej, if_neg ek, if_neg ek]
            obtain ⟨_, _, _, h4⟩ := hI.facts k hk ((getD_set L i k hLk).resolve_left ek)
            exact .inr h4
        · by_cases ek : k = i
          · rw [if_neg ej, if_neg ej, if_pos ek, if_pos ek]
            obtain ⟨_, _, _, h4⟩ := hI.facts j hj ((getD_set L i j hLj).resolve_left ej)
            exact .inl h4
          · rw [if_neg ej, if_neg ej, if_neg ek, if_neg ek]
            exact hI.apart j hj k hk hjk ((getD_set L i j hLj).resolve_left ej) ((getD_set L i k hLk).resolve_left ek)
    · obtain ⟨h1, h2⟩ := hpre j hj
      obtain ⟨h3, _⟩ := hI.facts j h1 h2
      exact ⟨_, _, h3⟩

/-- The frame behind them, written out. -/
def putsS (ops : Array Oper) (vals : Nat → Value) : List Nat → Act → Act
  | [], a => a
  | i :: S, a => putsS ops vals S (a.put (dstOf ops i) (vals i))
theorem puts_far (vals : Nat → Value) (t : Nat) : ∀ (S : List Nat) (a : Act), (∀ i ∈ S, dstOf ops i ≠ some t) → (putsS ops vals S a).tmps.getD t undef = a.tmps.getD t undef
  | [], _, _ => rfl
  | i :: S, a, h => by
    rw [putsS, puts_far vals t S _ (fun j hj => h j (List.mem_cons_of_mem _ hj)), getD_put a _ _ t (h i (List.mem_cons_self ..))]
theorem puts_at (vals : Nat → Value) (t : Nat) : ∀ (S : List Nat) (a : Act), (S.filterMap (dstOf ops)).Nodup → t < a.tmps.size → ∀ i ∈ S, dstOf ops i = some t → (putsS ops vals S a).tmps.getD t undef = vals i
  | [], _, _, _, _, hi, _ => by cases hi
  | x :: S, a, hn, ht, i, hi, hd => by
    rw [putsS]
    by_cases hx : dstOf ops x = some t
    · have hix : i = x := by
        by_cases e : i = x
        · exact e
        · exact (nodup_apart hn (List.mem_cons_self ..) hi e hd hx).elim
      subst hix
      have hfar : ∀ j ∈ S, dstOf ops j ≠ some t := fun j hj e => by
        rw [List.filterMap_cons, hd] at hn
        exact (List.nodup_cons.1 hn).1 (List.mem_filterMap.2 ⟨j, hj, e⟩)
      rw [puts_far vals t S _ hfar, hd, getD_put_same a t _ ht]
    · have hiS : i ∈ S := by
        rcases List.mem_cons.1 hi with rfl | h
        · exact absurd hd hx
        · exact h
      have hn2 : (S.filterMap (dstOf ops)).Nodup := by
        rw [List.filterMap_cons] at hn
        cases he : dstOf ops x with
        | none => rw [he] at hn; exact hn
        | some d' => rw [he] at hn; exact (List.nodup_cons.1 hn).2
      exact puts_at vals t S _ hn2 (by rw [size_put]; exact ht) i hiS hd
theorem puts_size (vals : Nat → Value) : ∀ (S : List Nat) (a : Act), (putsS ops vals S a).tmps.size = a.tmps.size
  | [], _ => rfl
  | i :: S, a => by rw [putsS, puts_size vals S, size_put]
theorem puts_defers (vals : Nat → Value) : ∀ (S : List Nat) (a : Act), (putsS ops vals S a).defers = a.defers
  | [], _ => rfl
  | i :: S, a => by rw [putsS, puts_defers vals S, defers_put]
theorem DagI.act {S : List Nat} {F : Nat → Value → World → Nat → Nat → Prop} {a0 : Act} {W0 : World} {L : Array Bool} {lo hi : Nat → Nat} {a : Act} {W : World} (h : DagI ops S F a0 W0 L lo hi a W)
    (hL : ∀ i ∈ S, L.getD i false = true) (hdst : (S.filterMap (dstOf ops)).Nodup) (hin : ∀ i ∈ S, ∀ d, dstOf ops i = some d → d < a0.tmps.size) : a = putsS ops (valOf ops a) S a0 := by
  have hd : a.defers = (putsS ops (valOf ops a) S a0).defers := by rw [puts_defers]; exact h.defers
  have ht : a.tmps = (putsS ops (valOf ops a) S a0).tmps := by
    have hsz : a.tmps.size = (putsS ops (valOf ops a) S a0).tmps.size := by rw [puts_size]; exact h.size
    apply Array.ext hsz
    intro t h1 h2
    have e1 : a.tmps.getD t undef = a.tmps[t] := by simp [h1]
    have e2 : (putsS ops (valOf ops a) S a0).tmps.getD t undef = (putsS ops (valOf ops a) S a0).tmps[t] := by simp [h2]
    rw [← e1, ← e2]
    by_cases he : ∃ i ∈ S, dstOf ops i = some t
    · obtain ⟨i, hi, hdi⟩ := he
      rw [puts_at (valOf ops a) t S a0 hdst (hin i hi t hdi) i hi hdi]
      unfold valOf
      rw [hdi]
    · have hf : ∀ i ∈ S, dstOf ops i ≠ some t := fun i hi e => he ⟨i, hi, e⟩
      rw [puts_far _ t S a0 hf]
      exact h.frame t (fun i hi _ => hf i hi)
  cases a with
  | mk tm df =>
    cases hp : putsS ops (valOf ops { tmps := tm, defers := df }) S a0 with
    | mk tm2 df2 =>
      rw [hp] at hd ht
      cases hd
      cases ht
      rfl
theorem dag_val {i : Nat} {o : Oper} {a : Act} {W : World} {K : Act → World → Prop} {v : Value} (ho : ops[i]? = some o) (hg : o.guard = none) (hrun : (execOp a.eval o).run P W = .ok (.value v) W) (h : K (a.put o.dst v) W) : wpOp P ops Q i K a W := by
  unfold wpOp
  rw [ho]
  simp only [Region.wanted, hg, if_true]
  refine .inl ?_
  unfold Oper.wp
  rw [hrun]
  exact h
theorem wpOp_of {i : Nat} {o : Oper} {a : Act} {W : World} {K : Act → World → Prop} (ho : ops[i]? = some o) (hg : o.guard = none) (h : o.wp P a W K Q) : wpOp P ops Q i K a W := by
  unfold wpOp
  rw [ho]
  simp only [Region.wanted, hg, if_true]
  exact .inl h
theorem wanted_of {o : Oper} {a : Act} {W : World} {K : Act → World → Prop} {R : Prop} (hg : o.guard = none) (h : o.wp P a W K Q) : if Region.wanted o (yielded ops a.tmps) = true then o.wp P a W K Q else R := by
  rw [if_pos (by simp [Region.wanted, hg])]
  exact h
/-- A region that draws: the operations S first, in whatever order; then what is left. -/
theorem wp_region_dag {id : Nat} {a : Act} {w : World} (hm : P.follows .mixedOrders = true) (S : List Nat) (pre : Nat → List Nat) (L1 : Array Bool) (rest : Nat) (F : Nat → Value → World → Nat → Nat → Prop)
    (hok : okDag .any ops (Array.replicate ops.size false) L1 pre [] S = true) (hsz : ops.size = S.length + rest) (hL : ∀ i ∈ S, L1.getD i false = true)
    (hdst : (S.filterMap (dstOf ops)).Nodup) (hin : (S.filterMap (dstOf ops)).all (fun d => decide (d < a.tmps.size)) = true)
    (hmono : ∀ i ∈ S, ∀ v W W' lo hi, hi ≤ W.heap.size → F i v W lo hi → Below W.heap.size W W' → F i v W' lo hi)
    (hstep : ∀ i ∈ S, ∀ (b : Act) (W : World), Below w.heap.size w W → (∀ t, (∀ j ∈ S, dstOf ops j ≠ some t) → b.tmps.getD t undef = a.tmps.getD t undef) → (∀ j ∈ pre i, ∃ lo hi, F j (valOf ops b j) W lo hi) →
      wpOp P ops Q i (fun a' W' => ∃ v, a' = b.put (dstOf ops i) v ∧ Below W.heap.size W W' ∧ (dstOf ops i = none → v = undef) ∧ F i v W' W.heap.size W'.heap.size) b W)
    (hend : ∀ (vals : Nat → Value) (lo hi : Nat → Nat) (W : World), Below w.heap.size w W → (∀ i ∈ S, F i (vals i) W (lo i) (hi i) ∧ w.heap.size ≤ lo i ∧ lo i ≤ hi i ∧ hi i ≤ W.heap.size) →
      (∀ i ∈ S, ∀ j ∈ S, i ≠ j → hi i ≤ lo j ∨ hi j ≤ lo i) → wpAny P .any ops Q rest L1 (putsS ops vals S a) W) : (Code.region id ops true).wp P Q a w := by
  have hin' : ∀ i ∈ S, ∀ d, dstOf ops i = some d → d < a.tmps.size := fun i hi d hd => by
    have := List.all_eq_true.1 hin d (List.mem_filterMap.2 ⟨i, hi, hd⟩)
    simpa using this
  refine wp_region_any hm ?_
  rw [hsz]
  have hw : ∀ W, Below w.heap.size w.drew W → Below w.heap.size w W := fun W h => (Below.refl _ _).drew.trans h
  have e0 : ∀ k : Nat, (Array.replicate (S.length + rest) false).getD k false = false := fun k => by simp [Array.getElem?_replicate]; split <;> rfl
  refine wpAny_dag (S := S) (pre := pre) (L0 := Array.replicate (S.length + rest) false) (L1 := L1) (F := F) (a0 := a) (W0 := w.drew) (by rw [← hsz]; exact hok) hdst hin' hmono (fun i hi b W hb hf hp => hstep i hi b W (hw W hb) hf hp) (fun lo hi b W hI => ?_) S.length _ (fun _ => 0) (fun _ => 0) a w.drew ?_ (by simp [hsz]) (fun _ _ => rfl) (fun k h => by rw [e0] at h; cases h) (fun k _ h => by rw [e0] at h; cases h) ⟨Below.refl _ _, rfl, rfl, fun _ _ => rfl, ?_, ?_⟩
  · rw [hI.act hL hdst hin']
    exact hend _ lo hi W (hw W hI.below) (fun i hi' => hI.facts i hi' (hL i hi')) (fun i hi' j hj hne => hI.apart i hi' j hj hne (hL i hi') (hL j hj))
  · rw [List.filter_eq_self.2 (fun i _ => by rw [e0]; rfl)]
  · intro i _ h
    rw [e0] at h; cases h
  · intro i _ j _ _ h
    rw [e0] at h; cases h
end
end Go.Proofs.Yteomanpaladdjaa.P
