/- The skip list's cells, in plain Lean. No conditions. -/
import Derived.Test.YteomanpaladdjaaPx0
namespace Go.Proofs.Yteomanpaladdjaa.P
open Go.RowKit Go.Proofs.YteomanpaladdjaaW.PrintWords Go.Proofs.YteomanpaladdjaaW.PrintLast Go.Proofs.YteomanpaladdjaaW.PrintMore
set_option linter.unusedVariables false
set_option linter.unusedSimpArgs false
/-- A node: its block, its key's row, its entry, its tower's height. -/
structure Nd where
  b : Nat
  A : Option Addr
  c : Nat
  e : S38
  h : Nat
/-- Where level j leads, from ahead of these. -/
def nx (j : Nat) : List Nd → Value
  | [] => .pointer none
  | n :: r => if j < n.h then .pointer (some ⟨n.b, 0, none⟩) else nx j r
def lv (h : Nat) (r : List Nd) (j : Nat) : Value := if j < h then nx j r else .pointer none
def nxs (h : Nat) (r : List Nd) : List Value := [lv h r 0, lv h r 1, lv h r 2, lv h r 3, lv h r 4, lv h r 5, lv h r 6, lv h r 7]
def agC (x : S36) : List Value := [.int .u64 x.f0, .bool x.f1, .int .i64 x.f2.f0, .int .u64 x.f2.f1, .int .i64 x.f3, .int .i64 x.f4]
def ndC (n : Nd) (r : List Nd) : List Value := .slice n.A n.e.f0.length n.c :: (agC n.e.f1 ++ nxs n.h r)
theorem ndC_len (n : Nd) (r : List Nd) : (ndC n r).length = 15 := rfl
theorem nx_app (j : Nat) : ∀ (X Y : List Nd), nx j (X ++ Y) = if X.any (fun m => decide (j < m.h)) then nx j X else nx j Y
  | [], Y => rfl
  | m :: X, Y => by
    rw [List.cons_append, nx, List.any_cons, nx_app j X Y]
    by_cases h : j < m.h
    · rw [if_pos h, decide_eq_true h, Bool.true_or, if_pos rfl, nx, if_pos h]
    · rw [if_neg h, decide_eq_false h, Bool.false_or, nx, if_neg h]
theorem nx_none {j : Nat} : ∀ {X : List Nd}, X.any (fun m => decide (j < m.h)) = false → nx j X = .pointer none
  | [], _ => rfl
  | m :: X, h => by
    rw [List.any_cons, Bool.or_eq_false_iff] at h
    rw [nx, if_neg (of_decide_eq_false h.1)]
    exact nx_none h.2
/-- The first of a list that level j meets: the list falls apart there. -/
theorem nx_split (j : Nat) : ∀ (Y : List Nd), (nx j Y = .pointer none ∧ ∀ m ∈ Y, ¬ j < m.h) ∨ ∃ P n Q, Y = P ++ n :: Q ∧ j < n.h ∧ (∀ m ∈ P, ¬ j < m.h) ∧ nx j Y = .pointer (some ⟨n.b, 0, none⟩)
  | [] => .inl ⟨rfl, fun m h => by cases h⟩
  | m :: Y => by
    by_cases h : j < m.h
    · exact .inr ⟨[], m, Y, rfl, h, (fun _ h => by cases h), by rw [nx, if_pos h]⟩
    · rcases nx_split j Y with ⟨h1, h2⟩ | ⟨P, n, Q, rfl, h1, h2, h3⟩
      · refine .inl ⟨by rw [nx, if_neg h]; exact h1, fun k hk => ?_⟩
        rcases List.mem_cons.1 hk with rfl | hk
        · exact h
        · exact h2 k hk
      · refine .inr ⟨m :: P, n, Q, rfl, h1, fun k hk => ?_, by rw [nx, if_neg h]; exact h3⟩
        rcases List.mem_cons.1 hk with rfl | hk
        · exact h
        · exact h2 k hk
/-- The nodes lie there. -/
def SkN (W : World) (base : Nat) (ok : Nat → Prop) : List Nd → Prop
  | [] => True
  | n :: r => (W.heap[n.b]? = some (.cells (ndC n r).toArray 59 (0, 0)) ∧ base ≤ n.b ∧ ok n.b ∧ Kd.R (Kd.int .u8) 5 W base ok (.slice n.A n.e.f0.length n.c) n.e.f0) ∧ SkN W base ok r
theorem SkN_at {W : World} {base : Nat} {ok : Nat → Prop} : ∀ {X Y : List Nd} {n : Nd}, SkN W base ok (X ++ n :: Y) → (W.heap[n.b]? = some (.cells (ndC n Y).toArray 59 (0, 0)) ∧ base ≤ n.b ∧ ok n.b ∧ Kd.R (Kd.int .u8) 5 W base ok (.slice n.A n.e.f0.length n.c) n.e.f0)
  | [], _, _, h => h.1
  | _ :: _, _, _, h => SkN_at h.2
theorem SkN_move {W W1 : World} {base : Nat} {ok : Nat → Prop} (hm : ∀ k, ok k → W1.heap[k]? = W.heap[k]?) : ∀ {L : List Nd}, SkN W base ok L → SkN W1 base ok L
  | [], _ => trivial
  | _ :: _, h => ⟨⟨(hm _ h.1.2.2.1).trans h.1.1, h.1.2.1, h.1.2.2.1, Kd.R_move h.1.2.2.2 hm⟩, SkN_move hm h.2⟩
theorem SkN_mono {W : World} {base : Nat} {ok ok' : Nat → Prop} (hm : ∀ k, ok k → ok' k) : ∀ {L : List Nd}, SkN W base ok L → SkN W base ok' L
  | [], _ => trivial
  | _ :: _, h => ⟨⟨h.1.1, h.1.2.1, hm _ h.1.2.2.1, Kd.R_mono h.1.2.2.2 hm⟩, SkN_mono hm h.2⟩
/-- The last one that level j meets; g: the head. -/
def pdB (g j : Nat) : List Nd → Nat
  | [] => g
  | m :: A => pdB (if j < m.h then m.b else g) j A
theorem pdB_none {g j : Nat} : ∀ {X : List Nd}, (∀ m ∈ X, ¬ j < m.h) → pdB g j X = g
  | [], _ => rfl
  | m :: X, h => by rw [pdB, if_neg (h m (List.mem_cons_self ..))]; exact pdB_none (fun k hk => h k (List.mem_cons_of_mem _ hk))
theorem pdB_app (g j : Nat) : ∀ (X Y : List Nd), pdB g j (X ++ Y) = pdB (pdB g j X) j Y
  | [], _ => rfl
  | m :: X, Y => by rw [List.cons_append, pdB, pdB, pdB_app]
theorem pdB_mem (j : Nat) : ∀ (g : Nat) (X : List Nd), pdB g j X = g ∨ ∃ m ∈ X, m.b = pdB g j X ∧ j < m.h
  | g, [] => .inl rfl
  | g, m :: X => by
    rw [pdB]
    by_cases h : j < m.h
    · rw [if_pos h]
      rcases pdB_mem j m.b X with e | ⟨k, hk, e⟩
      · exact .inr ⟨m, List.mem_cons_self .., e.symm, h⟩
      · exact .inr ⟨k, List.mem_cons_of_mem _ hk, e⟩
    · rw [if_neg h]
      rcases pdB_mem j g X with e | ⟨k, hk, e⟩
      · exact .inl e
      · exact .inr ⟨k, List.mem_cons_of_mem _ hk, e⟩
theorem nx_zero {n : Nd} (h : n.h = 0) (j : Nat) : ∀ (X Y : List Nd), nx j (X ++ n :: Y) = nx j (X ++ Y)
  | [], Y => by rw [List.nil_append, List.nil_append, nx, if_neg (by omega)]
  | m :: X, Y => by rw [List.cons_append, List.cons_append, nx, nx, nx_zero h j X Y]
theorem ndC_zero {n : Nd} (h : n.h = 0) (m : Nd) (X Y : List Nd) : ndC m (X ++ n :: Y) = ndC m (X ++ Y) := by
  unfold ndC nxs lv
  simp only [nx_zero h]
/-- A node that no level meets may stand anywhere. -/
theorem SkN_zero {W : World} {base : Nat} {ok : Nat → Prop} {n : Nd} (h : n.h = 0) {Y : List Nd} (hn : W.heap[n.b]? = some (.cells (ndC n Y).toArray 59 (0, 0)) ∧ base ≤ n.b ∧ ok n.b ∧ Kd.R (Kd.int .u8) 5 W base ok (.slice n.A n.e.f0.length n.c) n.e.f0) : ∀ {X : List Nd}, SkN W base ok (X ++ Y) → SkN W base ok (X ++ n :: Y)
  | [], hX => ⟨hn, hX⟩
  | m :: X, hX => ⟨⟨(show W.heap[m.b]? = some (.cells (ndC m (X ++ n :: Y)).toArray 59 (0, 0)) by rw [ndC_zero h]; exact hX.1.1), hX.1.2⟩, SkN_zero h hn hX.2⟩
theorem nxs_set {i h : Nat} (hi : i < 8) {r r' : List Nd} (hj : ∀ j, j ≠ i → lv h r' j = lv h r j) : nxs h r' = (nxs h r).set i (lv h r' i) := by
  unfold nxs
  match i, hi with
  | 0, _ => rw [hj 1 (by decide), hj 2 (by decide), hj 3 (by decide), hj 4 (by decide), hj 5 (by decide), hj 6 (by decide), hj 7 (by decide)]; rfl
  | 1, _ => rw [hj 0 (by decide), hj 2 (by decide), hj 3 (by decide), hj 4 (by decide), hj 5 (by decide), hj 6 (by decide), hj 7 (by decide)]; rfl
  | 2, _ => rw [hj 0 (by decide), hj 1 (by decide), hj 3 (by decide), hj 4 (by decide), hj 5 (by decide), hj 6 (by decide), hj 7 (by decide)]; rfl
  | 3, _ => rw [hj 0 (by decide), hj 1 (by decide), hj 2 (by decide), hj 4 (by decide), hj 5 (by decide), hj 6 (by decide), hj 7 (by decide)]; rfl
  | 4, _ => rw [hj 0 (by decide), hj 1 (by decide), hj 2 (by decide), hj 3 (by decide), hj 5 (by decide), hj 6 (by decide), hj 7 (by decide)]; rfl
  | 5, _ => rw [hj 0 (by decide), hj 1 (by decide), hj 2 (by decide), hj 3 (by decide), hj 4 (by decide), hj 6 (by decide), hj 7 (by decide)]; rfl
  | 6, _ => rw [hj 0 (by decide), hj 1 (by decide), hj 2 (by decide), hj 3 (by decide), hj 4 (by decide), hj 5 (by decide), hj 7 (by decide)]; rfl
  | 7, _ => rw [hj 0 (by decide), hj 1 (by decide), hj 2 (by decide), hj 3 (by decide), hj 4 (by decide), hj 5 (by decide), hj 6 (by decide)]; rfl
theorem ndC_set {i : Nat} (hi : i < 8) {m : Nd} {r r' : List Nd} (hj : ∀ j, j ≠ i → lv m.h r' j = lv m.h r j) : ndC m r' = (ndC m r).set (7 + i) (lv m.h r' i) := by
  unfold ndC
  rw [nxs_set hi hj, Nat.add_comm 7 i]
  rfl
theorem nx_raise {n n' : Nd} {i : Nat} (h : n.h = i) (h' : n'.h = i + 1) (hb : n'.b = n.b) {j : Nat} (hj : j ≠ i) : ∀ (X Y : List Nd), nx j (X ++ n' :: Y) = nx j (X ++ n :: Y)
  | [], Y => by
    rw [List.nil_append, List.nil_append, nx, nx, hb, h, h']
    by_cases h1 : j < i
    · rw [if_pos (by omega), if_pos h1]
    · rw [if_neg (by omega), if_neg h1]
  | m :: X, Y => by rw [List.cons_append, List.cons_append, nx, nx, nx_raise h h' hb hj X Y]
theorem pdB_some {g j : Nat} : ∀ {X : List Nd}, (∃ m ∈ X, j < m.h) → ∃ m ∈ X, m.b = pdB g j X ∧ j < m.h
  | [], ⟨m, hm, _⟩ => by cases hm
  | m :: X, h => by
    rw [pdB]
    by_cases h1 : ∃ k ∈ X, j < k.h
    · obtain ⟨k, hk, e⟩ := pdB_some (g := if j < m.h then m.b else g) h1
      exact ⟨k, List.mem_cons_of_mem _ hk, e⟩
    · rw [pdB_none (fun k hk hj => h1 ⟨k, hk, hj⟩)]
      obtain ⟨k, hk, hj⟩ := h
      rcases List.mem_cons.1 hk with rfl | hk
      · exact ⟨k, List.mem_cons_self .., by rw [if_pos hj], hj⟩
      · exact absurd ⟨k, hk, hj⟩ h1
def NdAt (W : World) (base : Nat) (ok : Nat → Prop) (n : Nd) (r : List Nd) : Prop := W.heap[n.b]? = some (.cells (ndC n r).toArray 59 (0, 0)) ∧ base ≤ n.b ∧ ok n.b ∧ Kd.R (Kd.int .u8) 5 W base ok (.slice n.A n.e.f0.length n.c) n.e.f0
theorem SkN_front {W : World} {base : Nat} {ok : Nat → Prop} {L : List Nd} (hL : SkN W base ok L) : ∀ {X : List Nd}, (∀ P m R, X = P ++ m :: R → NdAt W base ok m (R ++ L)) → SkN W base ok (X ++ L)
  | [], _ => hL
  | m :: X, h => ⟨h [] m X rfl, SkN_front hL (fun P k R e => h (m :: P) k R (by rw [e]; rfl))⟩
theorem SkN_tail {W : World} {base : Nat} {ok : Nat → Prop} : ∀ {X Y : List Nd}, SkN W base ok (X ++ Y) → SkN W base ok Y
  | [], _, h => h
  | _ :: _, _, h => SkN_tail h.2
theorem SkN_keep {W W1 : World} {base : Nat} {ok : Nat → Prop} (hR : ∀ v (xs : List Int), Kd.R (Kd.int .u8) 5 W base ok v xs → Kd.R (Kd.int .u8) 5 W1 base ok v xs) : ∀ {L : List Nd}, (∀ m ∈ L, W1.heap[m.b]? = W.heap[m.b]?) → SkN W base ok L → SkN W1 base ok L
  | [], _, _ => trivial
  | m :: L, hm, h => ⟨⟨(hm m (List.mem_cons_self ..)).trans h.1.1, h.1.2.1, h.1.2.2.1, hR _ _ h.1.2.2.2⟩, SkN_keep hR (fun k hk => hm k (List.mem_cons_of_mem _ hk)) h.2⟩
theorem any_none {j : Nat} {X : List Nd} (h : ∀ m ∈ X, ¬ j < m.h) : X.any (fun m => decide (j < m.h)) = false := by
  rw [List.any_eq_false]
  intro m hm
  rw [decide_eq_false (h m hm)]; decide
theorem any_some {j : Nat} {X : List Nd} (h : ∃ m ∈ X, j < m.h) : X.any (fun m => decide (j < m.h)) = true := by
  rw [List.any_eq_true]
  obtain ⟨m, hm, hj⟩ := h
  exact ⟨m, hm, decide_eq_true hj⟩
/-- One level more: the node's tower grows by one. -/
theorem SkN_raise {W W1 : World} {base : Nat} {ok : Nat → Prop} {n : Nd} {i g : Nat} (hi : i < 8) (h : n.h = i) {X Y : List Nd}
    (hn : W1.heap[n.b]? = some (.cells (ndC { n with h := i + 1 } Y).toArray 59 (0, 0))) (hR : ∀ v (xs : List Int), Kd.R (Kd.int .u8) 5 W base ok v xs → Kd.R (Kd.int .u8) 5 W1 base ok v xs)
    (hX : ∀ m ∈ X, m.b ≠ n.b ∧ m.b ≠ g) (hnd : X.Pairwise (fun m k => m.b ≠ k.b)) (hY : ∀ m ∈ Y, m.b ≠ n.b ∧ m.b ≠ g ∧ ∀ k ∈ X, m.b ≠ k.b)
    (hp : ∀ m ∈ X, m.b = pdB g i X → ∀ c : List Value, W.heap[m.b]? = some (.cells c.toArray 59 (0, 0)) → W1.heap[m.b]? = some (.cells (c.set (7 + i) (.pointer (some ⟨n.b, 0, none⟩))).toArray 59 (0, 0)))
    (hfar : ∀ k, k ≠ n.b → k ≠ pdB g i X → W1.heap[k]? = W.heap[k]?) (hS : SkN W base ok (X ++ n :: Y)) : SkN W1 base ok (X ++ { n with h := i + 1 } :: Y) := by
  have hpX := pdB_mem i g X
  have hsn := SkN_at hS
  have hYS : SkN W base ok Y := (show SkN W base ok (n :: Y) from SkN_tail hS).2
  refine SkN_front (show SkN W1 base ok ({ n with h := i + 1 } :: Y) from ⟨⟨hn, hsn.2.1, hsn.2.2.1, hR _ _ hsn.2.2.2⟩, SkN_keep hR (fun m hm => ?_) hYS⟩) (fun P m R e => ?_)
  · obtain ⟨y1, y2, y3⟩ := hY m hm
    refine hfar _ y1 (fun e => ?_)
    rcases hpX with e2 | ⟨k, hk, e2, _⟩
    · exact y2 (e.trans e2)
    · exact y3 k hk (e.trans e2.symm)
  · have hmX : m ∈ X := by rw [e]; simp
    have hms : NdAt W base ok m (R ++ n :: Y) := by
      rw [e, List.append_assoc] at hS
      exact SkN_at hS
    have hother : ∀ j, j ≠ i → lv m.h (R ++ { n with h := i + 1 } :: Y) j = lv m.h (R ++ n :: Y) j := fun j hj => by
      unfold lv
      rw [nx_raise (n' := { n with h := i + 1 }) h rfl rfl hj]
    refine ⟨?_, hms.2.1, hms.2.2.1, hR _ _ hms.2.2.2⟩
    by_cases hc : i < m.h ∧ ∀ k ∈ R, ¬ i < k.h
    · have hpm : m.b = pdB g i X := by
        rw [e, pdB_app, pdB, if_pos hc.1, pdB_none hc.2]
      rw [hp m hmX hpm _ hms.1, ndC_set hi hother]
      have : lv m.h (R ++ { n with h := i + 1 } :: Y) i = .pointer (some ⟨n.b, 0, none⟩) := by
        unfold lv
        rw [if_pos hc.1, nx_app, any_none hc.2, if_neg (by decide), nx, if_pos (Nat.lt_succ_self i)]
      rw [this]
    · have hne : m.b ≠ pdB g i X := by
        rw [e, List.pairwise_append, List.pairwise_cons] at hnd
        obtain ⟨_, ⟨n2, _⟩, n3⟩ := hnd
        rw [e, pdB_app, pdB]
        by_cases h1 : ∃ k ∈ R, i < k.h
        · obtain ⟨k, hk, e2, _⟩ := pdB_some (g := if i < m.h then m.b else pdB g i P) h1
          rw [← e2]
          exact n2 k hk
        · have h2 : ∀ k ∈ R, ¬ i < k.h := fun k hk hj => h1 ⟨k, hk, hj⟩
          rw [pdB_none h2, if_neg (fun h3 => hc ⟨h3, h2⟩)]
          rcases pdB_mem i g P with e2 | ⟨k, hk, e2, _⟩
          · rw [e2]; exact (hX m hmX).2
          · rw [← e2]; exact fun e3 => n3 k hk m (List.mem_cons_self ..) e3.symm
      rw [hfar _ (hX m hmX).1 hne, hms.1]
      have hlv : lv m.h (R ++ { n with h := i + 1 } :: Y) i = lv m.h (R ++ n :: Y) i := by
        unfold lv
        by_cases h1 : i < m.h
        · have h2 : ∃ k ∈ R, i < k.h := by
            refine Classical.byContradiction fun h3 => hc ⟨h1, fun k hk hj => h3 ⟨k, hk, hj⟩⟩
          rw [if_pos h1, if_pos h1, nx_app, nx_app, any_some h2, if_pos rfl, if_pos rfl]
        · rw [if_neg h1, if_neg h1]
      have hall : ∀ j, lv m.h (R ++ { n with h := i + 1 } :: Y) j = lv m.h (R ++ n :: Y) j := fun j => by
        by_cases hj : j = i
        · rw [hj]; exact hlv
        · exact hother j hj
      have : ndC m (R ++ { n with h := i + 1 } :: Y) = ndC m (R ++ n :: Y) := by
        unfold ndC nxs
        simp only [hall]
      rw [this]
end Go.Proofs.Yteomanpaladdjaa.P
