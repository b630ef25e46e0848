/- What Put does to a skip list, in plain Lean. No conditions. -/
import Derived.Test.YteomanpaladdjaaSkMid
import Derived.Test.YteomanpaladdjaaSkPut0
namespace Go.Proofs.Yteomanpaladdjaa.P
open Go.RowKit Go.Proofs.Yteomanpaladdjaa.Pure Go.Proofs.YteomanpaladdjaaW.PrintWords Go.Proofs.YteomanpaladdjaaW.PrintLast Go.Proofs.YteomanpaladdjaaW.PrintMore
set_option linter.unusedVariables false
set_option linter.unusedSimpArgs false
theorem nd_split (key : List Int) : ∀ (ns : List Nd), NdRise ns → ∃ X Y, ns = X ++ Y ∧ (∀ m ∈ X, cmpI m.e.f0 key < 0) ∧ (∀ m ∈ Y, ¬ cmpI m.e.f0 key < 0) ∧ ns.filter (lowB key) = X
  | [], _ => ⟨[], [], rfl, (fun m h => by cases h), (fun m h => by cases h), rfl⟩
  | n :: ns, hr => by
    unfold NdRise at hr
    rw [List.pairwise_cons] at hr
    by_cases h : cmpI n.e.f0 key < 0
    · obtain ⟨X, Y, rfl, h1, h2, h3⟩ := nd_split key ns hr.2
      refine ⟨n :: X, Y, rfl, fun m hm => ?_, h2, ?_⟩
      · rcases List.mem_cons.1 hm with rfl | hm
        · exact h
        · exact h1 m hm
      · rw [List.filter_cons, if_pos (show lowB key n = true from decide_eq_true h), h3]
    · have hall : ∀ m ∈ n :: ns, ¬ cmpI m.e.f0 key < 0 := fun m hm => by
        rcases List.mem_cons.1 hm with rfl | hm
        · exact h
        · exact fun h2 => h (cmpI_trans (hr.1 m hm) h2)
      refine ⟨[], n :: ns, rfl, (fun m h => by cases h), hall, ?_⟩
      rw [List.filter_eq_nil_iff]
      intro m hm
      unfold lowB
      rw [decide_eq_false (hall m hm)]; decide
theorem nx_same {n n' : Nd} (hh : n'.h = n.h) (hb : n'.b = n.b) (j : Nat) : ∀ (X Y : List Nd), nx j (X ++ n' :: Y) = nx j (X ++ n :: Y)
  | [], Y => by rw [List.nil_append, List.nil_append, nx, nx, hh, hb]
  | m :: X, Y => by rw [List.cons_append, List.cons_append, nx, nx, nx_same hh hb j X Y]
theorem SkN_swap {W W1 : World} {base : Nat} {ok : Nat → Prop} {n n' : Nd} {Y : List Nd} (hh : n'.h = n.h) (hb : n'.b = n.b) (hn : NdAt W1 base ok n' Y) (hR : ∀ v (xs : List Int), Kd.R (Kd.int .u8) 5 W base ok v xs → Kd.R (Kd.int .u8) 5 W1 base ok v xs) :
    ∀ {X : List Nd}, (∀ m ∈ X ++ Y, W1.heap[m.b]? = W.heap[m.b]?) → SkN W base ok (X ++ n :: Y) → SkN W1 base ok (X ++ n' :: Y)
  | [], hm, h => ⟨hn, SkN_keep hR hm h.2⟩
  | m :: X, hm, h => by
    have e : ndC m (X ++ n' :: Y) = ndC m (X ++ n :: Y) := by
      unfold ndC nxs lv
      simp only [nx_same hh hb]
    exact ⟨⟨(show W1.heap[m.b]? = some (.cells (ndC m (X ++ n' :: Y)).toArray 59 (0, 0)) by rw [e, hm m (by simp)]; exact h.1.1), h.1.2.1, h.1.2.2.1, hR _ _ h.1.2.2.2⟩, SkN_swap hh hb hn hR (fun k hk => hm k (List.mem_cons_of_mem _ hk)) h.2⟩
abbrev stN (W : World) (b : Nat) (z : Ag) : World := (((((W.setCell ⟨b, 1, none⟩ (.int .u64 z.f0)).setCell ⟨b, 2, none⟩ (.bool z.f1)).setCell ⟨b, 3, none⟩ (.int .i64 z.f2.f0)).setCell ⟨b, 4, none⟩ (.int .u64 z.f2.f1)).setCell ⟨b, 5, none⟩ (.int .i64 z.f3)).setCell ⟨b, 6, none⟩ (.int .i64 z.f4)
theorem stN_other (W : World) (b : Nat) (z : Ag) (k : Nat) (h : k ≠ b) : (stN W b z).heap[k]? = W.heap[k]? := by
  unfold stN
  rw [set_other _ _ _ _ h, set_other _ _ _ _ h, set_other _ _ _ _ h, set_other _ _ _ _ h, set_other _ _ _ _ h, set_other _ _ _ _ h]
theorem stN_blk {W : World} {n : Nd} {Y : List Nd} (h : W.heap[n.b]? = some (.cells (ndC n Y).toArray 59 (0, 0))) (z : Ag) : (stN W n.b z).heap[n.b]? = some (.cells (ndC { n with e := ⟨n.e.f0, z⟩ } Y).toArray 59 (0, 0)) := by
  unfold stN
  have b1 := blk_put h 1 (.int .u64 z.f0) rfl
  have b2 := blk_put b1 2 (.bool z.f1) rfl
  have b3 := blk_put b2 3 (.int .i64 z.f2.f0) rfl
  have b4 := blk_put b3 4 (.int .u64 z.f2.f1) rfl
  have b5 := blk_put b4 5 (.int .i64 z.f3) rfl
  refine blk_put b5 6 (.int .i64 z.f4) ?_
  simp only [List.setIfInBounds_toArray]
  rfl
theorem stN_R {W : World} {base b : Nat} {ok : Nat → Prop} {cs : Array Value} {t : TypeId} (h : W.heap[b]? = some (.cells cs t (0, 0))) (ht : t ≠ 5) (z : Ag) {v : Value} {xs : List Int} (hv : Kd.R (Kd.int .u8) 5 W base ok v xs) : Kd.R (Kd.int .u8) 5 (stN W b z) base ok v xs := by
  have hq : ∀ q, q ∈ 5 :: (Kd.int .u8).E → q ≠ t := by
    intro q hq; simp at hq; rcases hq with rfl | hq
    · exact ht.symm
    · exact absurd hq (by simp [Kd.int, Kd.scalar])
  unfold stN
  have b1 := blk_put h 1 (.int .u64 z.f0) rfl
  have b2 := blk_put b1 2 (.bool z.f1) rfl
  have b3 := blk_put b2 3 (.int .i64 z.f2.f0) rfl
  have b4 := blk_put b3 4 (.int .u64 z.f2.f1) rfl
  have b5 := blk_put b4 5 (.int .i64 z.f3) rfl
  exact Kd.R_set (Kd.R_set (Kd.R_set (Kd.R_set (Kd.R_set (Kd.R_set hv h hq 1 _) b1 hq 2 _) b2 hq 3 _) b3 hq 4 _) b4 hq 5 _) b5 hq 6 _
/-- What is known of a key is written anew. -/
theorem SkM.putA {W : World} {base g : Nat} {ok : Nat → Prop} {X Y : List Nd} {n : Nd} {cnt sz : Int} {fr : Bool} (h : SkM W base ok g (X ++ n :: Y) cnt sz fr) (z : Ag) : SkM (stN W n.b z) base ok g (X ++ { n with e := ⟨n.e.f0, z⟩ } :: Y) cnt sz fr := by
  have hsn := SkN_at h.nodes
  have hap := h.apart
  have hnd := hap.2
  rw [List.pairwise_append, List.pairwise_cons] at hnd
  have hR : ∀ v (xs : List Int), Kd.R (Kd.int .u8) 5 W base ok v xs → Kd.R (Kd.int .u8) 5 (stN W n.b z) base ok v xs := fun v xs hv => stN_R hsn.1 (by decide) z hv
  refine ⟨?_, h.headB, h.headO, SkN_swap (n := n) (n' := { n with e := ⟨n.e.f0, z⟩ }) rfl rfl ⟨stN_blk hsn.1 z, hsn.2.1, hsn.2.2.1, hR _ _ hsn.2.2.2⟩ hR (fun m hm => stN_other _ _ _ _ ?_) h.nodes, ?_, ?_, ?_⟩
  · have e : hdK (X ++ { n with e := ⟨n.e.f0, z⟩ } :: Y) cnt sz fr = hdK (X ++ n :: Y) cnt sz fr := by
      unfold hdK nxs lv
      simp only [nx_same (n := n) (n' := { n with e := ⟨n.e.f0, z⟩ }) rfl rfl]
    rw [e, stN_other _ _ _ _ (fun e2 => hap.1 n (by simp) e2.symm)]
    exact h.head
  · rcases List.mem_append.1 hm with hm | hm
    · exact hnd.2.2 m hm n (List.mem_cons_self ..)
    · exact (hnd.2.1.1 m hm).symm
  · have hr := h.rise
    unfold NdRise at hr ⊢
    rw [List.pairwise_append, List.pairwise_cons] at hr ⊢
    refine ⟨hr.1, hr.2.1, fun m hm k hk => ?_⟩
    rcases List.mem_cons.1 hk with rfl | hk
    · exact hr.2.2 m hm n (List.mem_cons_self ..)
    · exact hr.2.2 m hm k (List.mem_cons_of_mem _ hk)
  · intro m hm
    rcases List.mem_append.1 hm with hm | hm
    · exact hap.1 m (List.mem_append_left _ hm)
    · rcases List.mem_cons.1 hm with rfl | hm
      · exact hap.1 n (by simp)
      · exact hap.1 m (List.mem_append_right _ (List.mem_cons_of_mem _ hm))
  · rw [List.pairwise_append, List.pairwise_cons]
    refine ⟨hnd.1, hnd.2.1, fun m hm k hk => ?_⟩
    rcases List.mem_cons.1 hk with rfl | hk
    · exact hnd.2.2 m hm n (List.mem_cons_self ..)
    · exact hnd.2.2 m hm k (List.mem_cons_of_mem _ hk)
def sizeE (es : List En) : Int := (es.map (fun x => (x.f0.length : Int) + 41)).sum
/-- A list of entries lies there. -/
def SkS (W : World) (base : Nat) (ok : Nat → Prop) (g : Nat) (es : List En) (fr : Bool) : Prop := ∃ ns : List Nd, ns.map (·.e) = es ∧ SkL W base ok g ns (sizeE es) fr
theorem SkS.below {W W1 : World} {base g : Nat} {ok : Nat → Prop} {es : List En} {fr : Bool} (h : SkS W base ok g es fr) (hb : Below W.heap.size W W1) : SkS W1 base ok g es fr := by
  obtain ⟨ns, e, h⟩ := h
  exact ⟨ns, e, h.below hb⟩
theorem SkS.mono {W : World} {base g : Nat} {ok ok' : Nat → Prop} {es : List En} {fr : Bool} (h : SkS W base ok g es fr) (hm : ∀ k, ok k → ok' k) : SkS W base ok' g es fr := by
  obtain ⟨ns, e, h⟩ := h
  exact ⟨ns, e, h.mono hm⟩
theorem SkS.bound {W : World} {base g : Nat} {ok : Nat → Prop} {es : List En} {fr : Bool} (h : SkS W base ok g es fr) : SkS W base (fun k => ok k ∧ base ≤ k ∧ k < W.heap.size) g es fr := by
  obtain ⟨ns, e, h⟩ := h
  exact ⟨ns, e, h.bound⟩
theorem SkS.step {W W1 : World} {base g : Nat} {ok : Nat → Prop} {es : List En} {fr : Bool} (h : SkS W base ok g es fr) (hm : ∀ k, ok k → k < W.heap.size → W1.heap[k]? = W.heap[k]?) : SkS W1 base ok g es fr := by
  obtain ⟨ns, e, h⟩ := h
  exact ⟨ns, e, h.step hm⟩
/-- What Put answers. -/
def skErr (es : List En) (fr : Bool) (x : En) (h : Int) : Int :=
  if h < 1 ∨ 8 < h then 1 else if fr = true then 7 else if x.f0.length < 1 ∨ 256 < x.f0.length then 40 else if x.f1.f0 = 0 ∨ rightB x.f1 = false then 3 else if es.any (fun y => decide (cmpI y.f0 x.f0 = 0)) = true then 0 else if 4096 ≤ es.length then 5 else 0
def skNew (es : List En) (fr : Bool) (x : En) (h : Int) : List En := if skErr es fr x h = 0 then putL es x else es
theorem putL_front {x : En} : ∀ {X Y : List En}, (∀ m ∈ X, cmpI m.f0 x.f0 < 0) → putL (X ++ Y) x = X ++ putL Y x
  | [], _, _ => rfl
  | m :: X, Y, h => by
    rw [List.cons_append, putL, if_pos (h m (List.mem_cons_self ..)), putL_front (fun k hk => h k (List.mem_cons_of_mem _ hk))]
    rfl
/-- The ways of Put: the key is there, or it is not. -/
theorem put_ways {x : En} {X Y : List Nd} (hX : ∀ m ∈ X, cmpI m.e.f0 x.f0 < 0) (hY : ∀ m ∈ Y, ¬ cmpI m.e.f0 x.f0 < 0) (hr : NdRise (X ++ Y)) :
    (∃ n Q, Y = n :: Q ∧ cmpI n.e.f0 x.f0 = 0 ∧ ((X ++ Y).map (·.e)).any (fun y => decide (cmpI y.f0 x.f0 = 0)) = true ∧ putL ((X ++ Y).map (·.e)) x = X.map (·.e) ++ ⟨x.f0, mgA n.e.f1 x.f1⟩ :: Q.map (·.e)) ∨
    ((∀ m ∈ Y, 0 < cmpI m.e.f0 x.f0) ∧ ((X ++ Y).map (·.e)).any (fun y => decide (cmpI y.f0 x.f0 = 0)) = false ∧ putL ((X ++ Y).map (·.e)) x = X.map (·.e) ++ x :: Y.map (·.e)) := by
  have hXe : ∀ m ∈ X.map (·.e), cmpI m.f0 x.f0 < 0 := fun m hm => by
    obtain ⟨k, hk, rfl⟩ := List.mem_map.1 hm
    exact hX k hk
  unfold NdRise at hr
  rw [List.pairwise_append] at hr
  have hno : (∀ m ∈ Y, 0 < cmpI m.e.f0 x.f0) → ((X ++ Y).map (·.e)).any (fun y => decide (cmpI y.f0 x.f0 = 0)) = false := fun hp => by
    rw [List.any_eq_false]
    intro y hy
    obtain ⟨k, hk, rfl⟩ := List.mem_map.1 hy
    rcases List.mem_append.1 hk with hk | hk
    · have := hX k hk
      rw [decide_eq_false (by omega)]; decide
    · have := hp k hk
      rw [decide_eq_false (by omega)]; decide
  cases Y with
  | nil =>
    refine .inr ⟨(fun m h => by cases h), hno (fun m h => by cases h), ?_⟩
    rw [List.map_append, putL_front hXe]; rfl
  | cons n Q =>
    have hn := hY n (List.mem_cons_self ..)
    by_cases h0 : cmpI n.e.f0 x.f0 = 0
    · refine .inl ⟨n, Q, rfl, h0, ?_, ?_⟩
      · rw [List.any_eq_true]
        exact ⟨n.e, List.mem_map.2 ⟨n, by simp, rfl⟩, decide_eq_true h0⟩
      · rw [List.map_append, putL_front hXe, List.map_cons, putL, if_neg hn, if_pos h0]
    · have hp : ∀ m ∈ n :: Q, 0 < cmpI m.e.f0 x.f0 := fun m hm => by
        rcases List.mem_cons.1 hm with rfl | hm
        · omega
        · have h1 := (List.pairwise_cons.1 hr.2.1).1 m hm
          have h2 : cmpI x.f0 n.e.f0 < 0 := cmpI_neg.2 (by omega)
          exact cmpI_neg.1 (cmpI_trans h2 h1)
      refine .inr ⟨hp, hno hp, ?_⟩
      rw [List.map_append, putL_front hXe, List.map_cons, putL, if_neg hn, if_neg h0]
end Go.Proofs.Yteomanpaladdjaa.P
