/- The skip list while an entry is put in, in plain Lean. No conditions. -/
import Derived.Test.YteomanpaladdjaaSkList
import Derived.Test.YteomanpaladdjaaSkFind
namespace Go.Proofs.Yteomanpaladdjaa.P
open Go.RowKit Go.Proofs.YteomanpaladdjaaW.PrintWords Go.Proofs.YteomanpaladdjaaW.PrintLast Go.Proofs.YteomanpaladdjaaW.PrintMore
set_option linter.unusedVariables false
set_option linter.unusedSimpArgs false
theorem set_other (w : World) (a : Addr) (u : Value) (k : Nat) (h : k ≠ a.block) : (w.setCell a u).heap[k]? = w.heap[k]? := Below.heap_setCell w a u k h
def hdK (ns : List Nd) (cnt sz : Int) (fr : Bool) : List Value := .slice none 0 0 :: ([.int .u64 0, .bool false, .int .i64 0, .int .u64 0, .int .i64 0, .int .i64 0] ++ (nxs 8 ns ++ [.int .i64 cnt, .int .i64 sz, .bool fr]))
structure SkM (W : World) (base : Nat) (ok : Nat → Prop) (g : Nat) (ns : List Nd) (cnt sz : Int) (fr : Bool) : Prop where
  head : W.heap[g]? = some (.cells (hdK ns cnt sz fr).toArray 61 (0, 0))
  headB : base ≤ g
  headO : ok g
  nodes : SkN W base ok ns
  rise : NdRise ns
  apart : (∀ m ∈ ns, m.b ≠ g) ∧ ns.Pairwise (fun m k => m.b ≠ k.b)
theorem SkL.mid {W : World} {base g : Nat} {ok : Nat → Prop} {ns : List Nd} {sz : Int} {fr : Bool} (h : SkL W base ok g ns sz fr) : SkM W base ok g ns ns.length sz fr := ⟨h.head, h.headB, h.headO, h.nodes, h.rise, h.apart⟩
theorem SkM.toL {W : World} {base g : Nat} {ok : Nat → Prop} {ns : List Nd} {sz : Int} {fr : Bool} (h : SkM W base ok g ns ns.length sz fr) (ht : ∀ m ∈ ns, 0 < m.h ∧ m.h ≤ 8) : SkL W base ok g ns sz fr := ⟨h.head, h.headB, h.headO, h.nodes, h.rise, h.apart, ht⟩
theorem SkM.mono {W : World} {base g : Nat} {ok ok' : Nat → Prop} {ns : List Nd} {cnt sz : Int} {fr : Bool} (h : SkM W base ok g ns cnt sz fr) (hm : ∀ k, ok k → ok' k) : SkM W base ok' g ns cnt sz fr := ⟨h.head, h.headB, hm _ h.headO, SkN_mono hm h.nodes, h.rise, h.apart⟩
theorem SkM.move {W W1 : World} {base g : Nat} {ok : Nat → Prop} {ns : List Nd} {cnt sz : Int} {fr : Bool} (h : SkM W base ok g ns cnt sz fr) (hm : ∀ k, ok k → W1.heap[k]? = W.heap[k]?) : SkM W1 base ok g ns cnt sz fr := ⟨(hm _ h.headO).trans h.head, h.headB, h.headO, SkN_move hm h.nodes, h.rise, h.apart⟩
theorem SkN_bound {W : World} {base : Nat} {ok : Nat → Prop} : ∀ {L : List Nd}, SkN W base ok L → SkN W base (fun k => ok k ∧ base ≤ k ∧ k < W.heap.size) L
  | [], _ => trivial
  | m :: _, h => ⟨⟨h.1.1, h.1.2.1, ⟨h.1.2.2.1, h.1.2.1, (Array.getElem?_eq_some_iff.1 h.1.1).1⟩, Kd.R_mono (Kd.R_bound h.1.2.2.2) (fun k hk => ⟨hk.1, hk.2.1, hk.2.2.1⟩)⟩, SkN_bound h.2⟩
theorem SkM.bound {W : World} {base g : Nat} {ok : Nat → Prop} {ns : List Nd} {cnt sz : Int} {fr : Bool} (h : SkM W base ok g ns cnt sz fr) : SkM W base (fun k => ok k ∧ base ≤ k ∧ k < W.heap.size) g ns cnt sz fr := ⟨h.head, h.headB, ⟨h.headO, h.headB, (Array.getElem?_eq_some_iff.1 h.head).1⟩, SkN_bound h.nodes, h.rise, h.apart⟩
theorem SkM.step {W W1 : World} {base g : Nat} {ok : Nat → Prop} {ns : List Nd} {cnt sz : Int} {fr : Bool} (h : SkM W base ok g ns cnt sz fr) (hm : ∀ k, ok k → k < W.heap.size → W1.heap[k]? = W.heap[k]?) : SkM W1 base ok g ns cnt sz fr := (h.bound.move (fun k hk => hm k hk.1 hk.2.2)).mono (fun _ hk => hk.1)
theorem SkM.below {W W1 : World} {base g : Nat} {ok : Nat → Prop} {ns : List Nd} {cnt sz : Int} {fr : Bool} (h : SkM W base ok g ns cnt sz fr) (hb : Below W.heap.size W W1) : SkM W1 base ok g ns cnt sz fr := h.step (fun k _ hk => hb.block k hk)
theorem SkL.step {W W1 : World} {base g : Nat} {ok : Nat → Prop} {ns : List Nd} {sz : Int} {fr : Bool} (h : SkL W base ok g ns sz fr) (hm : ∀ k, ok k → k < W.heap.size → W1.heap[k]? = W.heap[k]?) : SkL W1 base ok g ns sz fr := (h.mid.step hm).toL h.tall
theorem SkL.below {W W1 : World} {base g : Nat} {ok : Nat → Prop} {ns : List Nd} {sz : Int} {fr : Bool} (h : SkL W base ok g ns sz fr) (hb : Below W.heap.size W W1) : SkL W1 base ok g ns sz fr := (h.mid.below hb).toL h.tall
theorem SkL.mono {W : World} {base g : Nat} {ok ok' : Nat → Prop} {ns : List Nd} {sz : Int} {fr : Bool} (h : SkL W base ok g ns sz fr) (hm : ∀ k, ok k → ok' k) : SkL W base ok' g ns sz fr := (h.mid.mono hm).toL h.tall
theorem SkL.bound {W : World} {base g : Nat} {ok : Nat → Prop} {ns : List Nd} {sz : Int} {fr : Bool} (h : SkL W base ok g ns sz fr) : SkL W base (fun k => ok k ∧ base ≤ k ∧ k < W.heap.size) g ns sz fr := h.mid.bound.toL h.tall
/-- The head's own numbers. -/
theorem SkM.number {W W1 : World} {base g : Nat} {ok : Nat → Prop} {ns : List Nd} {cnt sz cnt' sz' : Int} {fr fr' : Bool} (h : SkM W base ok g ns cnt sz fr) (h1 : W1.heap[g]? = some (.cells (hdK ns cnt' sz' fr').toArray 61 (0, 0))) (hR : ∀ v (xs : List Int), Kd.R (Kd.int .u8) 5 W base ok v xs → Kd.R (Kd.int .u8) 5 W1 base ok v xs) (hf : ∀ k, k ≠ g → W1.heap[k]? = W.heap[k]?) : SkM W1 base ok g ns cnt' sz' fr' :=
  ⟨h1, h.headB, h.headO, SkN_keep hR (fun m hm => hf _ (h.apart.1 m hm)) h.nodes, h.rise, h.apart⟩
theorem hdK_cnt (ns : List Nd) (cnt sz cnt' : Int) (fr : Bool) : (hdK ns cnt sz fr).toArray.setIfInBounds 15 (.int .i64 cnt') = (hdK ns cnt' sz fr).toArray := by rw [List.setIfInBounds_toArray]; rfl
theorem hdK_sz (ns : List Nd) (cnt sz sz' : Int) (fr : Bool) : (hdK ns cnt sz fr).toArray.setIfInBounds 16 (.int .i64 sz') = (hdK ns cnt sz' fr).toArray := by rw [List.setIfInBounds_toArray]; rfl
theorem hdK_fr (ns : List Nd) (cnt sz : Int) (fr fr' : Bool) : (hdK ns cnt sz fr).toArray.setIfInBounds 17 (.bool fr') = (hdK ns cnt sz fr').toArray := by rw [List.setIfInBounds_toArray]; rfl
theorem SkM.cnt {W : World} {base g : Nat} {ok : Nat → Prop} {ns : List Nd} {cnt sz : Int} {fr : Bool} (h : SkM W base ok g ns cnt sz fr) (cnt' : Int) : SkM (W.setCell ⟨g, 15, none⟩ (.int .i64 cnt')) base ok g ns cnt' sz fr :=
  h.number ((blk_set h.head 15 _).trans (by rw [hdK_cnt])) (fun v xs hv => Kd.R_set hv h.head (by decide) 15 _) (fun k hk => set_other _ _ _ _ hk)
theorem SkM.sz {W : World} {base g : Nat} {ok : Nat → Prop} {ns : List Nd} {cnt sz : Int} {fr : Bool} (h : SkM W base ok g ns cnt sz fr) (sz' : Int) : SkM (W.setCell ⟨g, 16, none⟩ (.int .i64 sz')) base ok g ns cnt sz' fr :=
  h.number ((blk_set h.head 16 _).trans (by rw [hdK_sz])) (fun v xs hv => Kd.R_set hv h.head (by decide) 16 _) (fun k hk => set_other _ _ _ _ hk)
theorem SkM.fr {W : World} {base g : Nat} {ok : Nat → Prop} {ns : List Nd} {cnt sz : Int} {fr : Bool} (h : SkM W base ok g ns cnt sz fr) (fr' : Bool) : SkM (W.setCell ⟨g, 17, none⟩ (.bool fr')) base ok g ns cnt sz fr' :=
  h.number ((blk_set h.head 17 _).trans (by rw [hdK_fr])) (fun v xs hv => Kd.R_set hv h.head (by decide) 17 _) (fun k hk => set_other _ _ _ _ hk)
/-- An entry is put in, as a node that no level meets. -/
theorem SkM.insert {W : World} {base g : Nat} {ok : Nat → Prop} {X Y : List Nd} {cnt sz : Int} {fr : Bool} (h : SkM W base ok g (X ++ Y) cnt sz fr) {n : Nd} (hz : n.h = 0) (hn : NdAt W base ok n Y) (hr : NdRise (X ++ n :: Y)) (hg : n.b ≠ g) (ha : ∀ m ∈ X ++ Y, m.b ≠ n.b) : SkM W base ok g (X ++ n :: Y) cnt sz fr := by
  refine ⟨?_, h.headB, h.headO, SkN_zero hz hn h.nodes, hr, ?_, ?_⟩
  · have e : hdK (X ++ n :: Y) cnt sz fr = hdK (X ++ Y) cnt sz fr := by
      unfold hdK nxs lv
      simp only [nx_zero hz]
    rw [e]; exact h.head
  · intro m hm
    rcases List.mem_append.1 hm with hm | hm
    · exact h.apart.1 m (List.mem_append_left _ hm)
    · rcases List.mem_cons.1 hm with rfl | hm
      · exact hg
      · exact h.apart.1 m (List.mem_append_right _ hm)
  · have hp := h.apart.2
    rw [List.pairwise_append] at hp ⊢
    refine ⟨hp.1, List.pairwise_cons.2 ⟨fun m hm => (ha m (List.mem_append_right _ hm)).symm, hp.2.1⟩, fun m hm k hk => ?_⟩
    rcases List.mem_cons.1 hk with rfl | hk
    · exact ha m (List.mem_append_left _ hm)
    · exact hp.2.2 m hm k hk
theorem ndC_up {n : Nd} {Y : List Nd} {i : Nat} (hi : i < 8) (h : n.h = i) : (ndC n Y).set (7 + i) (nx i Y) = ndC { n with h := i + 1 } Y := by
  unfold ndC nxs lv
  rw [h]
  match i, hi with
  | 0, _ => rfl
  | 1, _ => rfl
  | 2, _ => rfl
  | 3, _ => rfl
  | 4, _ => rfl
  | 5, _ => rfl
  | 6, _ => rfl
  | 7, _ => rfl
theorem hdK_set {i : Nat} (hi : i < 8) {r r' : List Nd} (cnt sz : Int) (fr : Bool) (hj : ∀ j, j ≠ i → nx j r' = nx j r) : hdK r' cnt sz fr = (hdK r cnt sz fr).set (7 + i) (nx i r') := by
  unfold hdK
  rw [nxs_set hi (r := r) (fun j hne => by unfold lv; rw [hj j hne]), Nat.add_comm 7 i]
  have e : lv 8 r' i = nx i r' := by unfold lv; rw [if_pos hi]
  rw [e]
  match i, hi with
  | 0, _ => rfl
  | 1, _ => rfl
  | 2, _ => rfl
  | 3, _ => rfl
  | 4, _ => rfl
  | 5, _ => rfl
  | 6, _ => rfl
  | 7, _ => rfl
theorem nx_low {n : Nd} {i : Nat} (h : ¬ i < n.h) (Y : List Nd) : nx i (n :: Y) = nx i Y := by rw [nx, if_neg h]
/-- Where a level of the nodes ahead of a key leads. -/
theorem SkM.pdCell {W : World} {base g : Nat} {ok : Nat → Prop} {X Y : List Nd} {cnt sz : Int} {fr : Bool} (h : SkM W base ok g (X ++ Y) cnt sz fr) {i : Nat} (hi : i < 8) : W.cell? ⟨pdB g i X, 7 + i, none⟩ = some (nx i Y) := by
  by_cases hx : ∃ m ∈ X, i < m.h
  · obtain ⟨P, m, R, rfl, hm, hR⟩ : ∃ P m R, X = P ++ m :: R ∧ i < m.h ∧ ∀ k ∈ R, ¬ i < k.h := by
      clear h
      induction X with
      | nil => obtain ⟨m, hm, _⟩ := hx; cases hm
      | cons a X ih =>
        by_cases h1 : ∃ m ∈ X, i < m.h
        · obtain ⟨P, m, R, rfl, e1, e2⟩ := ih h1
          exact ⟨a :: P, m, R, rfl, e1, e2⟩
        · obtain ⟨m, hm, hh⟩ := hx
          rcases List.mem_cons.1 hm with rfl | hm
          · exact ⟨[], m, X, rfl, hh, fun k hk hlt => h1 ⟨k, hk, hlt⟩⟩
          · exact absurd ⟨m, hm, hh⟩ h1
    rw [pdB_app, pdB, if_pos hm, pdB_none hR]
    have hn := h.nodes
    rw [List.append_assoc] at hn
    refine (blk_cell (SkN_at hn).1 _).trans ?_
    rw [List.getElem?_toArray, ndC_next hi]
    unfold lv
    rw [if_pos hm]
    have e : nx i (R ++ Y) = nx i Y := by rw [nx_app, any_none hR, if_neg (by decide)]
    exact congrArg some e
  · have hX : ∀ m ∈ X, ¬ i < m.h := fun m hm hh => hx ⟨m, hm, hh⟩
    rw [pdB_none hX]
    refine (blk_cell h.head _).trans ?_
    rw [List.getElem?_toArray]
    have h1 : (hdK (X ++ Y) cnt sz fr)[7 + i]? = (nxs 8 (X ++ Y) ++ [.int .i64 cnt, .int .i64 sz, .bool fr])[i]? := by rw [Nat.add_comm]; rfl
    rw [h1, List.getElem?_append_left (by show i < 8; exact hi), lv_at _ hi]
    unfold lv
    rw [if_pos hi, nx_app, any_none hX, if_neg (by decide)]
theorem SkM.pdBlk {W : World} {base g : Nat} {ok : Nat → Prop} {X Y : List Nd} {cnt sz : Int} {fr : Bool} (h : SkM W base ok g (X ++ Y) cnt sz fr) (i : Nat) : ok (pdB g i X) ∧ base ≤ pdB g i X ∧ ∃ cs t, W.heap[pdB g i X]? = some (.cells cs t (0, 0)) ∧ t ≠ 5 := by
  rcases pdB_mem i g X with e | ⟨m, hm, e, _⟩
  · rw [e]; exact ⟨h.headO, h.headB, _, _, h.head, by decide⟩
  · obtain ⟨P, R, rfl⟩ := List.append_of_mem hm
    have hn := h.nodes
    rw [List.append_assoc] at hn
    have := SkN_at hn
    rw [← e]
    exact ⟨this.2.2.1, this.2.1, _, _, this.1, by decide⟩
/-- One level more. -/
theorem SkM.raise {W : World} {base g : Nat} {ok : Nat → Prop} {X Y : List Nd} {n : Nd} {cnt sz : Int} {fr : Bool} (h : SkM W base ok g (X ++ n :: Y) cnt sz fr) {i : Nat} (hi : i < 8) (hn : n.h = i) :
    SkM ((W.setCell ⟨n.b, 7 + i, none⟩ (nx i Y)).setCell ⟨pdB g i X, 7 + i, none⟩ (.pointer (some ⟨n.b, 0, none⟩))) base ok g (X ++ { n with h := i + 1 } :: Y) cnt sz fr := by
  obtain ⟨po, pb, cs, t, ph, pt8⟩ := h.pdBlk (X := X) (Y := n :: Y) i
  have hsn := SkN_at h.nodes
  have hap := h.apart
  have hnd := hap.2
  rw [List.pairwise_append, List.pairwise_cons] at hnd
  have hpn : pdB g i X ≠ n.b := by
    rcases pdB_mem i g X with e | ⟨m, hm, e, _⟩
    · rw [e]; exact fun e2 => hap.1 n (by simp) e2.symm
    · rw [← e]; exact hnd.2.2 m hm n (List.mem_cons_self ..)
  obtain ⟨W0, hW0⟩ : ∃ W0, W.setCell ⟨n.b, 7 + i, none⟩ (nx i Y) = W0 := ⟨_, rfl⟩
  have hnb : W0.heap[n.b]? = some (.cells (ndC { n with h := i + 1 } Y).toArray 59 (0, 0)) := by
    rw [← hW0]
    refine (blk_set hsn.1 (7 + i) (nx i Y)).trans ?_
    rw [List.setIfInBounds_toArray, ndC_up hi hn]
  have hp0 : W0.heap[pdB g i X]? = some (.cells cs t (0, 0)) := by rw [← hW0]; exact (set_other _ _ _ _ hpn).trans ph
  have hR0 : ∀ v (xs : List Int), Kd.R (Kd.int .u8) 5 W base ok v xs → Kd.R (Kd.int .u8) 5 W0 base ok v xs := fun v xs hv => by rw [← hW0]; exact Kd.R_set hv hsn.1 (by decide) (7 + i) _
  rw [hW0]
  have hR : ∀ v (xs : List Int), Kd.R (Kd.int .u8) 5 W base ok v xs → Kd.R (Kd.int .u8) 5 (W0.setCell ⟨pdB g i X, 7 + i, none⟩ (.pointer (some ⟨n.b, 0, none⟩))) base ok v xs := fun v xs hv => Kd.R_set (hR0 v xs hv) hp0 (by intro q hq; simp at hq; rcases hq with rfl | hq; exact pt8.symm; exact absurd hq (by simp [Kd.int, Kd.scalar])) (7 + i) _
  have hfar : ∀ k, k ≠ n.b → k ≠ pdB g i X → (W0.setCell ⟨pdB g i X, 7 + i, none⟩ (.pointer (some ⟨n.b, 0, none⟩))).heap[k]? = W.heap[k]? := fun k h1 h2 => by
    rw [set_other _ _ _ _ h2, ← hW0, set_other _ _ _ _ h1]
  refine ⟨?_, h.headB, h.headO, SkN_raise (g := g) hi hn ?_ hR ?_ hnd.1 ?_ ?_ hfar h.nodes, ?_, ?_, ?_⟩
  · have hgn : g ≠ n.b := fun e => hap.1 n (by simp) e.symm
    have hj : ∀ j, j ≠ i → nx j (X ++ { n with h := i + 1 } :: Y) = nx j (X ++ n :: Y) := fun j hj => nx_raise (n' := { n with h := i + 1 }) hn rfl rfl hj X Y
    by_cases hc : ∃ m ∈ X, i < m.h
    · have hpg : g ≠ pdB g i X := by
        obtain ⟨m, hm, e, _⟩ := pdB_some (g := g) hc
        rw [← e]; exact fun e2 => hap.1 m (List.mem_append_left _ hm) e2.symm
      rw [hfar g hgn hpg, h.head, hdK_set hi cnt sz fr hj]
      have e : nx i (X ++ { n with h := i + 1 } :: Y) = nx i (X ++ n :: Y) := by rw [nx_app, nx_app, any_some hc, if_pos rfl, if_pos rfl]
      rw [e, ← hdK_set hi cnt sz fr (fun _ _ => rfl)]
    · have hX : ∀ m ∈ X, ¬ i < m.h := fun m hm hh => hc ⟨m, hm, hh⟩
      have hg0 : W0.heap[g]? = some (.cells (hdK (X ++ n :: Y) cnt sz fr).toArray 61 (0, 0)) := by rw [← hW0]; exact (set_other _ _ _ _ hgn).trans h.head
      rw [pdB_none hX]
      refine (blk_set hg0 (7 + i) _).trans ?_
      rw [List.setIfInBounds_toArray, hdK_set hi cnt sz fr hj]
      have e : nx i (X ++ { n with h := i + 1 } :: Y) = .pointer (some ⟨n.b, 0, none⟩) := by rw [nx_app, any_none hX, if_neg (by decide), nx, if_pos (Nat.lt_succ_self i)]
      rw [e]
  · exact (set_other _ _ _ _ hpn.symm).trans hnb
  · exact fun m hm => ⟨hnd.2.2 m hm n (List.mem_cons_self ..), hap.1 m (List.mem_append_left _ hm)⟩
  · exact fun m hm => ⟨(hnd.2.1.1 m hm).symm, hap.1 m (List.mem_append_right _ (List.mem_cons_of_mem _ hm)), fun k hk => (hnd.2.2 k hk m (List.mem_cons_of_mem _ hm)).symm⟩
  · intro m hm hmp c hc
    have hmn : m.b ≠ n.b := hnd.2.2 m hm n (List.mem_cons_self ..)
    have h0 : W0.heap[m.b]? = some (.cells c.toArray 59 (0, 0)) := by rw [← hW0]; exact (set_other _ _ _ _ hmn).trans hc
    rw [← hmp]
    refine (blk_set h0 (7 + i) _).trans ?_
    rw [List.setIfInBounds_toArray]
  · have hr := h.rise
    unfold NdRise at hr ⊢
    rw [List.pairwise_append, List.pairwise_cons] at hr ⊢
    refine ⟨hr.1, hr.2.1, fun m hm k hk => ?_⟩
    rcases List.mem_cons.1 hk with rfl | hk
    · exact hr.2.2 m hm n (List.mem_cons_self ..)
    · exact hr.2.2 m hm k (List.mem_cons_of_mem _ hk)
  · intro m hm
    rcases List.mem_append.1 hm with hm | hm
    · exact hap.1 m (List.mem_append_left _ hm)
    · rcases List.mem_cons.1 hm with rfl | hm
      · exact hap.1 n (by simp)
      · exact hap.1 m (List.mem_append_right _ (List.mem_cons_of_mem _ hm))
  · rw [List.pairwise_append, List.pairwise_cons]
    refine ⟨hnd.1, hnd.2.1, fun m hm k hk => ?_⟩
    rcases List.mem_cons.1 hk with rfl | hk
    · exact hnd.2.2 m hm n (List.mem_cons_self ..)
    · exact hnd.2.2 m hm k (List.mem_cons_of_mem _ hk)
end Go.Proofs.Yteomanpaladdjaa.P
