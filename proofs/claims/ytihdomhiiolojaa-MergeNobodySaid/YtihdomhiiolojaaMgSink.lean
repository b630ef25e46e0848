/- (*merge.Heap).sink: a front moves down to its place. No conditions. -/
import Derived.Test.YtihdomhiiolojaaMgHeap
import Derived.Scope
namespace Go.Proofs.Ytihdomhiiolojaa.P
open Go.RowKit Go.Proofs.YtihdomhiiolojaaW.PrintWords Go.Proofs.YtihdomhiiolojaaW.PrintLast Go.Proofs.YtihdomhiiolojaaW.PrintMore
set_option linter.unusedVariables false
set_option linter.unusedSimpArgs false

theorem w64i {x : Int} (h : -9223372036854775808 ≤ x ∧ x ≤ 9223372036854775807) : wrap64 x = x := by unfold wrap64; omega
theorem block_of_cell' {w : World} {a : Addr} {v : Value} (h : w.cell? a = some v) : a.block < w.heap.size := by
  by_cases hl : a.block < w.heap.size
  · exact hl
  · have : w.heap[a.block]? = none := Array.getElem?_eq_none (by omega)
    simp [World.cell?, this] at h
theorem cell_bl' {w C : World} {a : Addr} {v : Value} (h : w.cell? a = some v) (hb : Below w.heap.size w C) : C.cell? a = some v := (World.cell?_of_block (hb.block _ (block_of_cell' h))).trans h
/-- What the inner loop has found when k comes up. -/
def uptoF (F : List Fr) (a k : Nat) : Nat := if k ≤ 2 * a + 1 then a else if k ≤ 2 * a + 2 then pick1 F a (2 * a + 1) else pick1 F (pick1 F a (2 * a + 1)) (2 * a + 2)
theorem uptoF_lt {F : List Fr} {a k : Nat} (ha : a < F.length) (hk : k ≤ F.length) (hk2 : k ≤ 2 * a + 3) : uptoF F a k < F.length := by
  unfold uptoF
  split
  · exact ha
  · split
    · exact pick1_lt ha (by omega)
    · exact pick1_lt (pick1_lt ha (by omega)) (by omega)
theorem uptoF_step {F : List Fr} {a k : Nat} (hk : 2 * a + 1 ≤ k) (hk2 : k ≤ 2 * a + 2) : uptoF F a (k + 1) = pick1 F (uptoF F a k) k := by
  unfold uptoF
  rcases Nat.lt_or_eq_of_le hk with h | h
  · obtain rfl : k = 2 * a + 2 := by omega
    rw [if_neg (by omega), if_neg (by omega), if_neg (by omega), if_pos (by omega)]
  · obtain rfl : k = 2 * a + 1 := h.symm
    rw [if_neg (by omega), if_pos (by omega), if_pos (by omega)]
theorem uptoF_end {F : List Fr} {a k : Nat} (hk : 2 * a + 1 ≤ k) (hk2 : k ≤ 2 * a + 3) (he : k = 2 * a + 3 ∨ k ≥ F.length) (hkn : k = 2 * a + 1 ∨ k ≤ F.length) : uptoF F a k = leastF F a := by
  unfold uptoF leastF pick2
  by_cases h1 : k = 2 * a + 1
  · rw [if_pos (by omega), if_neg (by omega), if_neg (by omega)]
  · by_cases h2 : k = 2 * a + 2
    · rw [if_neg (by omega), if_pos (by omega), if_neg (by omega), if_pos (by omega)]
    · rw [if_neg (by omega), if_neg (by omega), if_pos (by omega), if_pos (by omega)]

/-- What sinking leaves: the other blocks lie as they lay. -/
def SkP (w0 : World) (w : World) (g b cap : Nat) (F : List Fr) (J : List Value) (a : Nat) (w' : World) : Prop :=
  Hp w' g b cap (sinkL (F.length + 1) F a) J ∧ Below w0.heap.size w0 w' ∧ w.heap.size ≤ w'.heap.size ∧ ∀ k, k < w.heap.size → k ≠ b → w'.heap[k]? = w.heap[k]?
set_option maxHeartbeats 4000000 in
set_option maxRecDepth 100000 in
theorem sink_calls (w0 : World) (g b cap : Nat) (F : List Fr) (J : List Value) (a : Nat) (w : World) (hH : Hp w g b cap F J) (hB : Below w0.heap.size w0 w) (hg : w0.heap.size ≤ g) (hb : w0.heap.size ≤ b) (hR : RowsOk w0 F) (ha : a < F.length) (hn : F.length ≤ 1000000000) :
    Calls Try.prog 21 #[.pointer (some ⟨g, 0, none⟩), .int .i64 (a : Int)] w fun e w' => (∃ v, e = .returned v) ∧ SkP w0 w g b cap F J a w' := by
  have hu := Try.underlying56
  have hu2 := Try.underlying50
  have HH := Aside0.mk hH
  have HB := Aside0.mk hB
  have HGB := Aside0.mk (And.intro hg hb)
  have HR := Aside0.mk hR
  have HA := Aside0.mk ha
  have HN := Aside0.mk hn
  clear hH hB hg hb hR ha hn
  go_enter Try.func21, Try.ntmps21
  go_wp2
  refine wp_scope_straight ?_
  go_wp2
  refine wp_label ?_
  go_wp2
  go_loopg [1] (F.length) (fun kq v1 w' => ∃ (a' : Nat) (F' : List Fr), v1 = .int .i64 (a' : Int) ∧ Aside0 (a' < F.length ∧ F.length - a' ≤ kq ∧ F'.length = F.length ∧ (∀ f ∈ F', f ∈ F) ∧ sinkL (F.length + 1) F' a' = sinkL (F.length + 1) F a) ∧ Aside0 (Hp w' g b cap F' J) ∧ Aside0 (Below w0.heap.size w0 w' ∧ w.heap.size ≤ w'.heap.size ∧ ∀ k, k < w.heap.size → k ≠ b → w'.heap[k]? = w.heap[k]?))
  case atStart => exact ⟨a, F, rfl, ⟨HA.out, by have := HA.out; omega, rfl, fun _ h => h, rfl⟩, HH, ⟨HB.out, Nat.le_refl _, fun _ _ _ => rfl⟩⟩
  case round =>
    obtain ⟨a', F', rfl, HI, HH', HBB⟩ := hrel
    clear HH HB
    have han := HI.out.1
    have hnn := HN.out
    obtain ⟨K1, hK1⟩ : ∃ x : Int, ((2 * a' + 1 : Nat) : Int) = x := ⟨_, rfl⟩
    obtain ⟨K2, hK2⟩ : ∃ x : Int, ((2 * a' + 2 : Nat) : Int) = x := ⟨_, rfl⟩
    obtain ⟨A2, hA2⟩ : ∃ x : Int, ((2 * a' : Nat) : Int) = x := ⟨_, rfl⟩
    obtain ⟨AI, hAI⟩ : ∃ x : Int, (a' : Int) = x := ⟨_, rfl⟩
    have m1 : wrap64 (2 * AI) = A2 := by rw [← hAI, ← hA2, w64i (by omega)]; omega
    have m2 : wrap64 (A2 + 1) = K1 := by rw [← hA2, ← hK1, w64i (by omega)]; omega
    have m3 : wrap64 (A2 + 2) = K2 := by rw [← hA2, ← hK2, w64i (by omega)]; omega
    have HAI := Aside0.mk hAI
    rw [hAI]
    clear hA2 hAI
    have HK := Aside0.mk (show ((2 * a' + 1 : Nat) : Int) = K1 ∧ ((2 * a' + 2 : Nat) : Int) = K2 from ⟨hK1, hK2⟩)
    have HAN := Aside0.mk han
    clear hK1 hK2 han hnn
    go_wp2
    try rw [m1]
    try rw [m2]
    go_loopg [4, 5] 3 (fun kq v4 v5 w' => ∃ (k lst : Nat), v4 = .int .i64 (lst : Int) ∧ v5 = .int .i64 (k : Int) ∧ Aside0 (2 * a' + 1 ≤ k ∧ k ≤ 2 * a' + 3 ∧ kq = 2 * a' + 4 - k ∧ lst = uptoF F' a' k ∧ lst < F.length ∧ (k = 2 * a' + 1 ∨ k ≤ F'.length)) ∧ Aside0 (Hp w' g b cap F' J) ∧ Aside0 (Below w0.heap.size w0 w' ∧ w.heap.size ≤ w'.heap.size ∧ ∀ k, k < w.heap.size → k ≠ b → w'.heap[k]? = w.heap[k]?))
    case atStart =>
      refine ⟨2 * a' + 1, a', by rw [HAI.out], by first | rw [HK.out.1] | rw [HK.out.1, m2], ⟨Nat.le_refl _, by omega, by omega, ?_, HAN.out, .inl rfl⟩, HH', HBB⟩
      unfold uptoF; rw [if_pos (Nat.le_refl _)]
    case round =>
      clear HH' HBB
      obtain ⟨k, lst, rfl, rfl, HJ, HH', HBB⟩ := hrel
      have hhead := HH'.out.head
      have hj := HJ.out
      have hlen := HI.out.2.2.1
      have hnn := HN.out
      have hKK := HK.out
      by_cases hc : k ≤ 2 * a' + 2 ∧ k < F'.length
      · obtain ⟨c1, c2⟩ := hc
        have d1 : decide ((k : Int) ≤ K2) = true := decide_eq_true (by omega)
        have d2 : decide ((k : Int) < (F'.length : Int)) = true := decide_eq_true (by omega)
        have d2b : decide (k < F'.length) = true := decide_eq_true c2
        obtain ⟨x, hx⟩ : ∃ x, F'[k]? = some x := ⟨_, List.getElem?_eq_getElem c2⟩
        obtain ⟨y, hy⟩ : ∃ y, F'[lst]? = some y := ⟨_, List.getElem?_eq_getElem (by omega)⟩
        have hxm := HR.out x (HI.out.2.2.2.1 x (List.mem_of_getElem? hx))
        have hym := HR.out y (HI.out.2.2.2.1 y (List.mem_of_getElem? hy))
        have HLS := Aside0.mk (fun W (hb : Below w0.heap.size w0 W) => mless_calls x y hxm.1 hym.1 W (hxm.2.2 W hb) hxm.2.1 (hym.2.2 W hb) hym.2.1)
        obtain ⟨ad, had⟩ : ∃ ad : Addr, ad = ⟨b, 0, none⟩ := ⟨_, rfl⟩
        have q1 := HH'.out.at0 hx had
        have q2 := HH'.out.at0 hy had
        rw [← had] at hhead
        have HAD := Aside0.mk had
        have i1 : (0 ≤ (k : Int)) = True := eq_true (by omega)
        have i2 : ((k : Int) < (F'.length : Int)) = True := eq_true (by omega)
        have i3 : (k < F'.length) = True := eq_true c2
        have j1 : (0 ≤ (lst : Int)) = True := eq_true (by omega)
        have j2 : ((lst : Int) < (F'.length : Int)) = True := eq_true (by omega)
        have j3 : (lst < F'.length) = True := eq_true (by omega)
        have hw1 : wrap64 ((k : Int) + 1) = ((k + 1 : Nat) : Int) := by rw [w64i (by omega)]; omega
        have HS0 := Aside0.mk (show wr.drew.cell? ⟨g, 0, none⟩ = some (.slice (some ad) F'.length cap) ∧ wr.drew.cell? (ad.add (k * 2)) = some (.slice x.A x.l.length x.c) ∧ wr.drew.cell? ⟨(ad.add (k * 2)).block, (ad.add (k * 2)).off + 1, none⟩ = some (.int .i64 (x.p : Int)) ∧ wr.drew.cell? (ad.add (lst * 2)) = some (.slice y.A y.l.length y.c) ∧ wr.drew.cell? ⟨(ad.add (lst * 2)).block, (ad.add (lst * 2)).off + 1, none⟩ = some (.int .i64 (y.p : Int)) from ⟨hhead, q1.1, q1.2.1, q2.1, q2.2.1⟩)
        have HX := Aside0.mk (And.intro hx hy)
        have HC := Aside0.mk (And.intro c1 c2)
        obtain ⟨r, hr⟩ : ∃ r, lessF x y = r := ⟨_, rfl⟩
        rw [hr] at HLS
        have HRR := Aside0.mk hr
        clear hj hlen hnn hKK c1 c2 hx hy hxm hym q1 q2 had hr
        go_wp2
        go_region_held3 (fun W' => W'.cell? ⟨g, 0, none⟩ = some (.slice (some ad) F'.length cap) ∧ W'.cell? (ad.add (k * 2)) = some (.slice x.A x.l.length x.c) ∧ W'.cell? ⟨(ad.add (k * 2)).block, (ad.add (k * 2)).off + 1, none⟩ = some (.int .i64 (x.p : Int)) ∧ W'.cell? (ad.add (lst * 2)) = some (.slice y.A y.l.length y.c) ∧ W'.cell? ⟨(ad.add (lst * 2)).block, (ad.add (lst * 2)).off + 1, none⟩ = some (.int .i64 (y.p : Int))) (first | (with_reducible exact HS9.out) | (with_reducible exact HS0.out))
          (first
            | (go_at_call 34; refine (HLS.out _ HBB.out.1.drew).mono ?_; rintro e w9 ⟨rfl, hb⟩; have HH9 := Aside0.mk ((HH'.out.below (Below.refl _ _).drew).below hb); have HB9 := Aside0.mk (show Below w0.heap.size w0 w9 ∧ w.heap.size ≤ w9.heap.size ∧ ∀ k, k < w.heap.size → k ≠ b → w9.heap[k]? = w.heap[k]? from ⟨HBB.out.1.drew.trans (hb.mono HBB.out.1.size), Nat.le_trans HBB.out.2.1 hb.size, fun k hk hne => (hb.block k (Nat.lt_of_lt_of_le hk HBB.out.2.1)).trans (HBB.out.2.2 k hk hne)⟩); have HS9 := Aside0.mk (And.intro (cell_bl' HS0.out.1 hb) (And.intro (cell_bl' HS0.out.2.1 hb) (And.intro (cell_bl' HS0.out.2.2.1 hb) (And.intro (cell_bl' HS0.out.2.2.2.1 hb) (cell_bl' HS0.out.2.2.2.2 hb))))); clear hb))
        all_goals
          cases r with
          | true =>
            go_wp2
            go_roundg (2 * a' + 4 - (k + 1))
            case measure => have := HJ.out; have := HC.out; omega
            case rel => exact ⟨k + 1, k, rfl, by rw [hw1], ⟨by have := HJ.out; omega, by have := HC.out; omega, rfl, by rw [uptoF_step HJ.out.1 HC.out.1, ← HJ.out.2.2.2.1]; unfold pick1; rw [HX.out.1, HX.out.2]; simp only []; rw [HRR.out, if_pos rfl], by rw [← HI.out.2.2.1]; exact HC.out.2, .inr HC.out.2⟩, HH9, HB9⟩
          | false =>
            go_wp2
            go_roundg (2 * a' + 4 - (k + 1))
            case measure => have := HJ.out; have := HC.out; omega
            case rel => exact ⟨k + 1, lst, rfl, by rw [hw1], ⟨by have := HJ.out; omega, by have := HC.out; omega, rfl, by rw [uptoF_step HJ.out.1 HC.out.1, ← HJ.out.2.2.2.1]; unfold pick1; rw [HX.out.1, HX.out.2]; simp only []; rw [HRR.out, if_neg (by decide)], HJ.out.2.2.2.2.1, .inr HC.out.2⟩, HH9, HB9⟩
      · have HLE := Aside0.mk (show lst = leastF F' a' by rw [hj.2.2.2.1]; exact uptoF_end hj.1 hj.2.1 (by omega) hj.2.2.2.2.2)
        have han := HI.out.1
        by_cases hk2 : k ≤ 2 * a' + 2
        · have d1 : decide ((k : Int) ≤ K2) = true := decide_eq_true (by omega)
          have d2 : decide ((k : Int) < (F'.length : Int)) = false := decide_eq_false (by omega)
          have d2b : decide (k < F'.length) = false := decide_eq_false (by omega)
          by_cases hla : lst = a'
          · have e1 : ((lst : Int) == AI) = true := beq_iff_eq.2 (by rw [← HAI.out]; omega)
            have HF := Aside0.mk (show sinkL (F.length + 1) F a = F' by rw [← HI.out.2.2.2.2, sinkL, if_pos (by rw [← HLE.out]; exact hla)])
            clear hla hc hk2 hj hlen hnn hKK han
            go_wp2
            unfold Exit.noGoto
            dsimp only
            refine bodyPost_end (results_none rfl _ _ _) rfl ?_
            exact ⟨⟨_, rfl⟩, by rw [HF.out]; exact HH'.out, HBB.out⟩
          · have e1 : ((lst : Int) == AI) = false := beq_eq_false_iff_ne.2 (by rw [← HAI.out]; omega)
            obtain ⟨x, hx⟩ : ∃ x, F'[a']? = some x := ⟨_, List.getElem?_eq_getElem (by omega)⟩
            obtain ⟨y, hy⟩ : ∃ y, F'[lst]? = some y := ⟨_, List.getElem?_eq_getElem (by omega)⟩
            obtain ⟨ad, had⟩ : ∃ ad : Addr, ad = ⟨b, 0, none⟩ := ⟨_, rfl⟩
            have q1 := HH'.out.at0 hx had
            have q2 := HH'.out.at0 hy had
            rw [← had] at hhead
            have HQ := Aside0.mk (And.intro q1 q2)
            obtain ⟨z1, z3, z5, z6, hz⟩ := swap_cells (p := ad.add (a' * 2)) (.slice y.A y.l.length y.c) (.int .i64 (y.p : Int)) (.slice x.A x.l.length x.c) q1.2.1 q2.1 q2.2.1
            have HZ := Aside0.mk hz
            have HAD := Aside0.mk had
            have hAn : AI.toNat = a' := by rw [← HAI.out]; omega
            have i1 : (0 ≤ AI) = True := eq_true (by rw [← HAI.out]; omega)
            have i2 : (AI < (F'.length : Int)) = True := eq_true (by rw [← HAI.out]; omega)
            have i3 : (a' < F'.length) = True := eq_true (by omega)
            have j1 : (0 ≤ (lst : Int)) = True := eq_true (by omega)
            have j2 : ((lst : Int) < (F'.length : Int)) = True := eq_true (by omega)
            have j3 : (lst < F'.length) = True := eq_true (by omega)
            have HX := Aside0.mk (And.intro hx hy)
            have HSW := Aside0.mk (show swapF F' a' lst = (F'.set a' y).set lst x by unfold swapF; rw [hx, hy])
            have HLO := Aside0.mk (leastF_or F' a')
            have HLA := Aside0.mk hla
            have HPUT := Aside0.mk ((HH'.out.put (i := a') (by omega) y had).put (i := lst) (by rw [List.length_set]; omega) x had)
            have hS : wr.drew.cell? ⟨g, 0, none⟩ = some (.slice (some ad) F'.length cap) ∧ wr.drew.cell? (ad.add (a' * 2)) = some (.slice x.A x.l.length x.c) ∧ wr.drew.cell? ⟨(ad.add (a' * 2)).block, (ad.add (a' * 2)).off + 1, none⟩ = some (.int .i64 (x.p : Int)) ∧ wr.drew.cell? (ad.add (lst * 2)) = some (.slice y.A y.l.length y.c) ∧ wr.drew.cell? ⟨(ad.add (lst * 2)).block, (ad.add (lst * 2)).off + 1, none⟩ = some (.int .i64 (y.p : Int)) := ⟨hhead, q1.1, q1.2.1, q2.1, q2.2.1⟩
            have HS := Aside0.mk hS
            clear hla hc hk2 hj hlen hnn hKK han hx hy hS had hz q1 q2
            go_wp2
            refine wp_region_last_drew (ds := [25, 27]) (S := fun W' => W'.cell? ⟨g, 0, none⟩ = some (.slice (some ad) F'.length cap) ∧ W'.cell? (ad.add (a' * 2)) = some (.slice x.A x.l.length x.c) ∧ W'.cell? ⟨(ad.add (a' * 2)).block, (ad.add (a' * 2)).off + 1, none⟩ = some (.int .i64 (x.p : Int)) ∧ W'.cell? (ad.add (lst * 2)) = some (.slice y.A y.l.length y.c) ∧ W'.cell? ⟨(ad.add (lst * 2)).block, (ad.add (lst * 2)).off + 1, none⟩ = some (.int .i64 (y.p : Int))) (by kernel_rfl) ?_ (fun hS0 => ?_);
            focus exact HS.out
            (refine wpAnyLast_take (i := 0) (v := ?_) rfl (by kernel_rfl) (by kernel_rfl) (by kernel_rfl) (by kernel_rfl) (by kernel_rfl) (fun _ _ _ h => h) (Or.inl ⟨by rfl, ?_⟩) (by assumption) ?_; rotate_left 1; focus (intro ww hSw; (try dsimp only at hSw); go_simp; try with_reducible rfl)); try simp only [Act.put, List.setIfInBounds_toArray, List.set_cons_zero, List.set_cons_succ]
            (refine wpAnyLast_take (i := 1) (v := ?_) rfl (by kernel_rfl) (by kernel_rfl) (by kernel_rfl) (by kernel_rfl) (by kernel_rfl) (fun _ _ _ h => h) (Or.inl ⟨by rfl, ?_⟩) (by assumption) ?_; rotate_left 1; focus (intro ww hSw; (try dsimp only at hSw); go_simp; try with_reducible rfl)); try simp only [Act.put, List.setIfInBounds_toArray, List.set_cons_zero, List.set_cons_succ]
            (refine wpAnyLast_take (i := 2) (v := ?_) rfl (by kernel_rfl) (by kernel_rfl) (by kernel_rfl) (by kernel_rfl) (by kernel_rfl) (fun _ _ _ h => h) (Or.inl ⟨by rfl, ?_⟩) (by assumption) ?_; rotate_left 1; focus (intro ww hSw; (try dsimp only at hSw); go_simp; try with_reducible rfl)); try simp only [Act.put, List.setIfInBounds_toArray, List.set_cons_zero, List.set_cons_succ]
            (refine wpAnyLast_take (i := 3) (v := ?_) rfl (by kernel_rfl) (by kernel_rfl) (by kernel_rfl) (by kernel_rfl) (by kernel_rfl) (fun _ _ _ h => h) (Or.inl ⟨by rfl, ?_⟩) (by assumption) ?_; rotate_left 1; focus (intro ww hSw; (try dsimp only at hSw); go_simp; try with_reducible rfl)); try simp only [Act.put, List.setIfInBounds_toArray, List.set_cons_zero, List.set_cons_succ]
            (refine wpAnyLast_take (i := 4) (v := ?_) rfl (by kernel_rfl) (by kernel_rfl) (by kernel_rfl) (by kernel_rfl) (by kernel_rfl) (fun _ _ _ h => h) (Or.inl ⟨by rfl, ?_⟩) (by assumption) ?_; rotate_left 1; focus (intro ww hSw; (try dsimp only at hSw); go_simp; try with_reducible rfl)); try simp only [Act.put, List.setIfInBounds_toArray, List.set_cons_zero, List.set_cons_succ]
            (refine wpAnyLast_take (i := 5) (v := ?_) rfl (by kernel_rfl) (by kernel_rfl) (by kernel_rfl) (by kernel_rfl) (by kernel_rfl) (fun _ _ _ h => h) (Or.inl ⟨by rfl, ?_⟩) (by assumption) ?_; rotate_left 1; focus (intro ww hSw; (try dsimp only at hSw); go_simp; try with_reducible rfl)); try simp only [Act.put, List.setIfInBounds_toArray, List.set_cons_zero, List.set_cons_succ]
            (refine wpAnyLast_take (i := 6) (v := ?_) rfl (by kernel_rfl) (by kernel_rfl) (by kernel_rfl) (by kernel_rfl) (by kernel_rfl) (fun _ _ _ h => h) (Or.inl ⟨by rfl, ?_⟩) (by assumption) ?_; rotate_left 1; focus (intro ww hSw; (try dsimp only at hSw); go_simp; try with_reducible rfl)); try simp only [Act.put, List.setIfInBounds_toArray, List.set_cons_zero, List.set_cons_succ]
            (refine wpAnyLast_take (i := 7) (v := ?_) rfl (by kernel_rfl) (by kernel_rfl) (by kernel_rfl) (by kernel_rfl) (by kernel_rfl) (fun _ _ _ h => h) (Or.inl ⟨by rfl, ?_⟩) (by assumption) ?_; rotate_left 1; focus (intro ww hSw; (try dsimp only at hSw); go_simp; try with_reducible rfl)); try simp only [Act.put, List.setIfInBounds_toArray, List.set_cons_zero, List.set_cons_succ]
            (refine wpAnyLast_take (i := 8) (v := ?_) rfl (by kernel_rfl) (by kernel_rfl) (by kernel_rfl) (by kernel_rfl) (by kernel_rfl) (fun _ _ _ h => h) (Or.inl ⟨by rfl, ?_⟩) (by assumption) ?_; rotate_left 1; focus (intro ww hSw; (try dsimp only at hSw); go_simp; try with_reducible rfl)); try simp only [Act.put, List.setIfInBounds_toArray, List.set_cons_zero, List.set_cons_succ]
            (refine wpAnyLast_pure (i := 9) (v := ?_) rfl (by kernel_rfl) (by kernel_rfl) (by kernel_rfl) (fun _ _ _ h => h) (Or.inl ⟨by rfl, ?_⟩) ?_; rotate_left 1; focus (intro ww; go_simp; try with_reducible rfl)); try simp only [Act.put, List.setIfInBounds_toArray, List.set_cons_zero, List.set_cons_succ]
            (refine wpAnyLast_take (i := 10) (v := ?_) rfl (by kernel_rfl) (by kernel_rfl) (by kernel_rfl) (by kernel_rfl) (by kernel_rfl) (fun _ _ _ h => h) (Or.inl ⟨by rfl, ?_⟩) (by assumption) ?_; rotate_left 1; focus (intro ww hSw; (try dsimp only at hSw); go_simp; try with_reducible rfl)); try simp only [Act.put, List.setIfInBounds_toArray, List.set_cons_zero, List.set_cons_succ]
            (refine wpAnyLast_take (i := 11) (v := ?_) rfl (by kernel_rfl) (by kernel_rfl) (by kernel_rfl) (by kernel_rfl) (by kernel_rfl) (fun _ _ _ h => h) (Or.inl ⟨by rfl, ?_⟩) (by assumption) ?_; rotate_left 1; focus (intro ww hSw; (try dsimp only at hSw); go_simp; try with_reducible rfl)); try simp only [Act.put, List.setIfInBounds_toArray, List.set_cons_zero, List.set_cons_succ]
            (refine wpAnyLast_take (i := 12) (v := ?_) rfl (by kernel_rfl) (by kernel_rfl) (by kernel_rfl) (by kernel_rfl) (by kernel_rfl) (fun _ _ _ h => h) (Or.inl ⟨by rfl, ?_⟩) (by assumption) ?_; rotate_left 1; focus (intro ww hSw; (try dsimp only at hSw); go_simp; try with_reducible rfl)); try simp only [Act.put, List.setIfInBounds_toArray, List.set_cons_zero, List.set_cons_succ]
            (refine wpAnyLast_take (i := 13) (v := ?_) rfl (by kernel_rfl) (by kernel_rfl) (by kernel_rfl) (by kernel_rfl) (by kernel_rfl) (fun _ _ _ h => h) (Or.inl ⟨by rfl, ?_⟩) (by assumption) ?_; rotate_left 1; focus (intro ww hSw; (try dsimp only at hSw); go_simp; try with_reducible rfl)); try simp only [Act.put, List.setIfInBounds_toArray, List.set_cons_zero, List.set_cons_succ]
            (refine wpAnyLast_take (i := 14) (v := ?_) rfl (by kernel_rfl) (by kernel_rfl) (by kernel_rfl) (by kernel_rfl) (by kernel_rfl) (fun _ _ _ h => h) (Or.inl ⟨by rfl, ?_⟩) (by assumption) ?_; rotate_left 1; focus (intro ww hSw; (try dsimp only at hSw); go_simp; try with_reducible rfl)); try simp only [Act.put, List.setIfInBounds_toArray, List.set_cons_zero, List.set_cons_succ]
            (refine wpAnyLast_take (i := 15) (v := ?_) rfl (by kernel_rfl) (by kernel_rfl) (by kernel_rfl) (by kernel_rfl) (by kernel_rfl) (fun _ _ _ h => h) (Or.inl ⟨by rfl, ?_⟩) (by assumption) ?_; rotate_left 1; focus (intro ww hSw; (try dsimp only at hSw); go_simp; try with_reducible rfl)); try simp only [Act.put, List.setIfInBounds_toArray, List.set_cons_zero, List.set_cons_succ]
            (refine wpAnyLast_take (i := 16) (v := ?_) rfl (by kernel_rfl) (by kernel_rfl) (by kernel_rfl) (by kernel_rfl) (by kernel_rfl) (fun _ _ _ h => h) (Or.inl ⟨by rfl, ?_⟩) (by assumption) ?_; rotate_left 1; focus (intro ww hSw; (try dsimp only at hSw); go_simp; try with_reducible rfl)); try simp only [Act.put, List.setIfInBounds_toArray, List.set_cons_zero, List.set_cons_succ]
            (refine wpAnyLast_take (i := 17) (v := ?_) rfl (by kernel_rfl) (by kernel_rfl) (by kernel_rfl) (by kernel_rfl) (by kernel_rfl) (fun _ _ _ h => h) (Or.inl ⟨by rfl, ?_⟩) (by assumption) ?_; rotate_left 1; focus (intro ww hSw; (try dsimp only at hSw); go_simp; try with_reducible rfl)); try simp only [Act.put, List.setIfInBounds_toArray, List.set_cons_zero, List.set_cons_succ]
            (refine wpAnyLast_take (i := 18) (v := ?_) rfl (by kernel_rfl) (by kernel_rfl) (by kernel_rfl) (by kernel_rfl) (by kernel_rfl) (fun _ _ _ h => h) (Or.inl ⟨by rfl, ?_⟩) (by assumption) ?_; rotate_left 1; focus (intro ww hSw; (try dsimp only at hSw); go_simp; try with_reducible rfl)); try simp only [Act.put, List.setIfInBounds_toArray, List.set_cons_zero, List.set_cons_succ]
            (refine wpAnyLast_take (i := 19) (v := ?_) rfl (by kernel_rfl) (by kernel_rfl) (by kernel_rfl) (by kernel_rfl) (by kernel_rfl) (fun _ _ _ h => h) (Or.inl ⟨by rfl, ?_⟩) (by assumption) ?_; rotate_left 1; focus (intro ww hSw; (try dsimp only at hSw); go_simp; try with_reducible rfl)); try simp only [Act.put, List.setIfInBounds_toArray, List.set_cons_zero, List.set_cons_succ]
            (refine wpAnyLast_take (i := 20) (v := ?_) rfl (by kernel_rfl) (by kernel_rfl) (by kernel_rfl) (by kernel_rfl) (by kernel_rfl) (fun _ _ _ h => h) (Or.inl ⟨by rfl, ?_⟩) (by assumption) ?_; rotate_left 1; focus (intro ww hSw; (try dsimp only at hSw); go_simp; try with_reducible rfl)); try simp only [Act.put, List.setIfInBounds_toArray, List.set_cons_zero, List.set_cons_succ]
            (refine wpAnyLast_take (i := 21) (v := ?_) rfl (by kernel_rfl) (by kernel_rfl) (by kernel_rfl) (by kernel_rfl) (by kernel_rfl) (fun _ _ _ h => h) (Or.inl ⟨by rfl, ?_⟩) (by assumption) ?_; rotate_left 1; focus (intro ww hSw; (try dsimp only at hSw); go_simp; try with_reducible rfl)); try simp only [Act.put, List.setIfInBounds_toArray, List.set_cons_zero, List.set_cons_succ]
            (refine wpAnyLast_take (i := 22) (v := ?_) rfl (by kernel_rfl) (by kernel_rfl) (by kernel_rfl) (by kernel_rfl) (by kernel_rfl) (fun _ _ _ h => h) (Or.inl ⟨by rfl, ?_⟩) (by assumption) ?_; rotate_left 1; focus (intro ww hSw; (try dsimp only at hSw); go_simp; try with_reducible rfl)); try simp only [Act.put, List.setIfInBounds_toArray, List.set_cons_zero, List.set_cons_succ]
            (refine wpAnyLast_take (i := 23) (v := ?_) rfl (by kernel_rfl) (by kernel_rfl) (by kernel_rfl) (by kernel_rfl) (by kernel_rfl) (fun _ _ _ h => h) (Or.inl ⟨by rfl, ?_⟩) (by assumption) ?_; rotate_left 1; focus (intro ww hSw; (try dsimp only at hSw); go_simp; try with_reducible rfl)); try simp only [Act.put, List.setIfInBounds_toArray, List.set_cons_zero, List.set_cons_succ]
            (refine wpAnyLast_pure (i := 24) (v := ?_) rfl (by kernel_rfl) (by kernel_rfl) (by kernel_rfl) (fun _ _ _ h => h) (Or.inl ⟨by rfl, ?_⟩) ?_; rotate_left 1; focus (intro ww; go_simp; try with_reducible rfl)); try simp only [Act.put, List.setIfInBounds_toArray, List.set_cons_zero, List.set_cons_succ]
            have hz1 := HZ.out.1
            have hz3 := HZ.out.2.1
            have hz5 := HZ.out.2.2.1
            have hz6 := HZ.out.2.2.2
            have k1 := HQ.out.1.1
            have k3 := HQ.out.1.2.2.1
            have k4 := HQ.out.1.2.2.2
            have r3 := HQ.out.2.2.2.1
            have r4 := HQ.out.2.2.2.2
            refine wpAnyLast_ready (rs := [25]) (by kernel_rfl) (by simp) (AllReadyL.cons_last rfl (by decide) (fun K hK => ?_) AllReadyL.nil)
            (go_simp; refine hK _ _ ?_; clear hK K)
            (refine wpAnyLast_pure (i := 26) (v := ?_) rfl (by kernel_rfl) (by kernel_rfl) (by kernel_rfl) (fun _ _ _ h => h) (Or.inl ⟨by rfl, ?_⟩) ?_; rotate_left 1; focus (intro ww; go_simp; try with_reducible rfl)); try simp only [Act.put, List.setIfInBounds_toArray, List.set_cons_zero, List.set_cons_succ]
            refine wpAnyLast_ready (rs := [27]) (by kernel_rfl) (by simp) (AllReadyL.cons_last rfl (by decide) (fun K hK => ?_) AllReadyL.nil)
            (go_simp; refine hK _ _ ?_; clear hK K)
            refine wpAnyLast_done (by kernel_rfl) ?_ _;
            clear hz1 hz3 hz5 hz6 k1 k3 k4 r3 r4
            have p1 := put_kept (A := wr) HAD.out a' (.slice y.A y.l.length y.c) (.int .i64 (y.p : Int))
            have p2 := put_kept (A := (wr.setCell (ad.add (a' * 2)) (.slice y.A y.l.length y.c)).setCell ⟨(ad.add (a' * 2)).block, (ad.add (a' * 2)).off + 1, none⟩ (.int .i64 (y.p : Int))) HAD.out lst (.slice x.A x.l.length x.c) (.int .i64 (x.p : Int))
            have hh := HPUT.out
            rw [← HSW.out] at hh
            obtain ⟨W9, hW9⟩ : ∃ W9, (((wr.setCell (ad.add (a' * 2)) (.slice y.A y.l.length y.c)).setCell ⟨(ad.add (a' * 2)).block, (ad.add (a' * 2)).off + 1, none⟩ (.int .i64 (y.p : Int))).setCell (ad.add (lst * 2)) (.slice x.A x.l.length x.c)).setCell ⟨(ad.add (lst * 2)).block, (ad.add (lst * 2)).off + 1, none⟩ (.int .i64 (x.p : Int)) = W9 := ⟨_, rfl⟩
            have HB9 := Aside0.mk (show Below w0.heap.size w0 W9 ∧ w.heap.size ≤ W9.heap.size ∧ ∀ k, k < w.heap.size → k ≠ b → W9.heap[k]? = w.heap[k]? from by
              rw [← hW9]
              exact ⟨p2.2.1 (p1.2.1 HBB.out.1 HGB.out.2) HGB.out.2, by rw [p2.2.2, p1.2.2]; exact HBB.out.2.1, fun k hk hne => (p2.1 k hne).trans ((p1.1 k hne).trans (HBB.out.2.2 k hk hne))⟩)
            rw [hW9] at hh ⊢
            have HH9 := Aside0.mk hh
            clear p1 p2 hh hW9
            go_wp2
            go_roundg (F.length - lst)
            case measure => have h1 := HLO.out; have h2 := HLE.out; have h3 := HLA.out; have h4 := HI.out; omega
            case rel =>
              refine ⟨lst, swapF F' a' lst, rfl, ⟨HJ.out.2.2.2.2.1, Nat.le_refl _, by rw [swapF_len, HI.out.2.2.1], fun f hf => HI.out.2.2.2.1 f (mem_swapF hf), ?_⟩, ⟨HH9.out.below (Below.refl _ _).drew⟩, ⟨HB9.out.1.drew, HB9.out.2.1, HB9.out.2.2⟩⟩
              rw [← HI.out.2.2.2.2]
              conv => rhs; rw [sinkL]
              rw [if_neg (by rw [← HLE.out]; exact HLA.out), ← HLE.out]
              have h1 := HLO.out
              have h2 := HLE.out
              have h3 := HLA.out
              have h4 := HI.out
              exact sinkL_fuel _ _ _ _ (by rw [swapF_len]; omega) (by rw [swapF_len]; omega)
        · have d1 : decide ((k : Int) ≤ K2) = false := decide_eq_false (by omega)
          by_cases hla : lst = a'
          · have e1 : ((lst : Int) == AI) = true := beq_iff_eq.2 (by rw [← HAI.out]; omega)
            have HF := Aside0.mk (show sinkL (F.length + 1) F a = F' by rw [← HI.out.2.2.2.2, sinkL, if_pos (by rw [← HLE.out]; exact hla)])
            clear hla hc hk2 hj hlen hnn hKK han
            go_wp2
            unfold Exit.noGoto
            dsimp only
            refine bodyPost_end (results_none rfl _ _ _) rfl ?_
            exact ⟨⟨_, rfl⟩, by rw [HF.out]; exact HH'.out, HBB.out⟩
          · have e1 : ((lst : Int) == AI) = false := beq_eq_false_iff_ne.2 (by rw [← HAI.out]; omega)
            obtain ⟨x, hx⟩ : ∃ x, F'[a']? = some x := ⟨_, List.getElem?_eq_getElem (by omega)⟩
            obtain ⟨y, hy⟩ : ∃ y, F'[lst]? = some y := ⟨_, List.getElem?_eq_getElem (by omega)⟩
            obtain ⟨ad, had⟩ : ∃ ad : Addr, ad = ⟨b, 0, none⟩ := ⟨_, rfl⟩
            have q1 := HH'.out.at0 hx had
            have q2 := HH'.out.at0 hy had
            rw [← had] at hhead
            have HQ := Aside0.mk (And.intro q1 q2)
            obtain ⟨z1, z3, z5, z6, hz⟩ := swap_cells (p := ad.add (a' * 2)) (.slice y.A y.l.length y.c) (.int .i64 (y.p : Int)) (.slice x.A x.l.length x.c) q1.2.1 q2.1 q2.2.1
            have HZ := Aside0.mk hz
            have HAD := Aside0.mk had
            have hAn : AI.toNat = a' := by rw [← HAI.out]; omega
            have i1 : (0 ≤ AI) = True := eq_true (by rw [← HAI.out]; omega)
            have i2 : (AI < (F'.length : Int)) = True := eq_true (by rw [← HAI.out]; omega)
            have i3 : (a' < F'.length) = True := eq_true (by omega)
            have j1 : (0 ≤ (lst : Int)) = True := eq_true (by omega)
            have j2 : ((lst : Int) < (F'.length : Int)) = True := eq_true (by omega)
            have j3 : (lst < F'.length) = True := eq_true (by omega)
            have HX := Aside0.mk (And.intro hx hy)
            have HSW := Aside0.mk (show swapF F' a' lst = (F'.set a' y).set lst x by unfold swapF; rw [hx, hy])
            have HLO := Aside0.mk (leastF_or F' a')
            have HLA := Aside0.mk hla
            have HPUT := Aside0.mk ((HH'.out.put (i := a') (by omega) y had).put (i := lst) (by rw [List.length_set]; omega) x had)
            have hS : wr.drew.cell? ⟨g, 0, none⟩ = some (.slice (some ad) F'.length cap) ∧ wr.drew.cell? (ad.add (a' * 2)) = some (.slice x.A x.l.length x.c) ∧ wr.drew.cell? ⟨(ad.add (a' * 2)).block, (ad.add (a' * 2)).off + 1, none⟩ = some (.int .i64 (x.p : Int)) ∧ wr.drew.cell? (ad.add (lst * 2)) = some (.slice y.A y.l.length y.c) ∧ wr.drew.cell? ⟨(ad.add (lst * 2)).block, (ad.add (lst * 2)).off + 1, none⟩ = some (.int .i64 (y.p : Int)) := ⟨hhead, q1.1, q1.2.1, q2.1, q2.2.1⟩
            have HS := Aside0.mk hS
            clear hla hc hk2 hj hlen hnn hKK han hx hy hS had hz q1 q2
            go_wp2
            refine wp_region_last_drew (ds := [25, 27]) (S := fun W' => W'.cell? ⟨g, 0, none⟩ = some (.slice (some ad) F'.length cap) ∧ W'.cell? (ad.add (a' * 2)) = some (.slice x.A x.l.length x.c) ∧ W'.cell? ⟨(ad.add (a' * 2)).block, (ad.add (a' * 2)).off + 1, none⟩ = some (.int .i64 (x.p : Int)) ∧ W'.cell? (ad.add (lst * 2)) = some (.slice y.A y.l.length y.c) ∧ W'.cell? ⟨(ad.add (lst * 2)).block, (ad.add (lst * 2)).off + 1, none⟩ = some (.int .i64 (y.p : Int))) (by kernel_rfl) ?_ (fun hS0 => ?_);
            focus exact HS.out
            (refine wpAnyLast_take (i := 0) (v := ?_) rfl (by kernel_rfl) (by kernel_rfl) (by kernel_rfl) (by kernel_rfl) (by kernel_rfl) (fun _ _ _ h => h) (Or.inl ⟨by rfl, ?_⟩) (by assumption) ?_; rotate_left 1; focus (intro ww hSw; (try dsimp only at hSw); go_simp; try with_reducible rfl)); try simp only [Act.put, List.setIfInBounds_toArray, List.set_cons_zero, List.set_cons_succ]
            (refine wpAnyLast_take (i := 1) (v := ?_) rfl (by kernel_rfl) (by kernel_rfl) (by kernel_rfl) (by kernel_rfl) (by kernel_rfl) (fun _ _ _ h => h) (Or.inl ⟨by rfl, ?_⟩) (by assumption) ?_; rotate_left 1; focus (intro ww hSw; (try dsimp only at hSw); go_simp; try with_reducible rfl)); try simp only [Act.put, List.setIfInBounds_toArray, List.set_cons_zero, List.set_cons_succ]
            (refine wpAnyLast_take (i := 2) (v := ?_) rfl (by kernel_rfl) (by kernel_rfl) (by kernel_rfl) (by kernel_rfl) (by kernel_rfl) (fun _ _ _ h => h) (Or.inl ⟨by rfl, ?_⟩) (by assumption) ?_; rotate_left 1; focus (intro ww hSw; (try dsimp only at hSw); go_simp; try with_reducible rfl)); try simp only [Act.put, List.setIfInBounds_toArray, List.set_cons_zero, List.set_cons_succ]
            (refine wpAnyLast_take (i := 3) (v := ?_) rfl (by kernel_rfl) (by kernel_rfl) (by kernel_rfl) (by kernel_rfl) (by kernel_rfl) (fun _ _ _ h => h) (Or.inl ⟨by rfl, ?_⟩) (by assumption) ?_; rotate_left 1; focus (intro ww hSw; (try dsimp only at hSw); go_simp; try with_reducible rfl)); try simp only [Act.put, List.setIfInBounds_toArray, List.set_cons_zero, List.set_cons_succ]
            (refine wpAnyLast_take (i := 4) (v := ?_) rfl (by kernel_rfl) (by kernel_rfl) (by kernel_rfl) (by kernel_rfl) (by kernel_rfl) (fun _ _ _ h => h) (Or.inl ⟨by rfl, ?_⟩) (by assumption) ?_; rotate_left 1; focus (intro ww hSw; (try dsimp only at hSw); go_simp; try with_reducible rfl)); try simp only [Act.put, List.setIfInBounds_toArray, List.set_cons_zero, List.set_cons_succ]
            (refine wpAnyLast_take (i := 5) (v := ?_) rfl (by kernel_rfl) (by kernel_rfl) (by kernel_rfl) (by kernel_rfl) (by kernel_rfl) (fun _ _ _ h => h) (Or.inl ⟨by rfl, ?_⟩) (by assumption) ?_; rotate_left 1; focus (intro ww hSw; (try dsimp only at hSw); go_simp; try with_reducible rfl)); try simp only [Act.put, List.setIfInBounds_toArray, List.set_cons_zero, List.set_cons_succ]
            (refine wpAnyLast_take (i := 6) (v := ?_) rfl (by kernel_rfl) (by kernel_rfl) (by kernel_rfl) (by kernel_rfl) (by kernel_rfl) (fun _ _ _ h => h) (Or.inl ⟨by rfl, ?_⟩) (by assumption) ?_; rotate_left 1; focus (intro ww hSw; (try dsimp only at hSw); go_simp; try with_reducible rfl)); try simp only [Act.put, List.setIfInBounds_toArray, List.set_cons_zero, List.set_cons_succ]
            (refine wpAnyLast_take (i := 7) (v := ?_) rfl (by kernel_rfl) (by kernel_rfl) (by kernel_rfl) (by kernel_rfl) (by kernel_rfl) (fun _ _ _ h => h) (Or.inl ⟨by rfl, ?_⟩) (by assumption) ?_; rotate_left 1; focus (intro ww hSw; (try dsimp only at hSw); go_simp; try with_reducible rfl)); try simp only [Act.put, List.setIfInBounds_toArray, List.set_cons_zero, List.set_cons_succ]
            (refine wpAnyLast_take (i := 8) (v := ?_) rfl (by kernel_rfl) (by kernel_rfl) (by kernel_rfl) (by kernel_rfl) (by kernel_rfl) (fun _ _ _ h => h) (Or.inl ⟨by rfl, ?_⟩) (by assumption) ?_; rotate_left 1; focus (intro ww hSw; (try dsimp only at hSw); go_simp; try with_reducible rfl)); try simp only [Act.put, List.setIfInBounds_toArray, List.set_cons_zero, List.set_cons_succ]
            (refine wpAnyLast_pure (i := 9) (v := ?_) rfl (by kernel_rfl) (by kernel_rfl) (by kernel_rfl) (fun _ _ _ h => h) (Or.inl ⟨by rfl, ?_⟩) ?_; rotate_left 1; focus (intro ww; go_simp; try with_reducible rfl)); try simp only [Act.put, List.setIfInBounds_toArray, List.set_cons_zero, List.set_cons_succ]
            (refine wpAnyLast_take (i := 10) (v := ?_) rfl (by kernel_rfl) (by kernel_rfl) (by kernel_rfl) (by kernel_rfl) (by kernel_rfl) (fun _ _ _ h => h) (Or.inl ⟨by rfl, ?_⟩) (by assumption) ?_; rotate_left 1; focus (intro ww hSw; (try dsimp only at hSw); go_simp; try with_reducible rfl)); try simp only [Act.put, List.setIfInBounds_toArray, List.set_cons_zero, List.set_cons_succ]
            (refine wpAnyLast_take (i := 11) (v := ?_) rfl (by kernel_rfl) (by kernel_rfl) (by kernel_rfl) (by kernel_rfl) (by kernel_rfl) (fun _ _ _ h => h) (Or.inl ⟨by rfl, ?_⟩) (by assumption) ?_; rotate_left 1; focus (intro ww hSw; (try dsimp only at hSw); go_simp; try with_reducible rfl)); try simp only [Act.put, List.setIfInBounds_toArray, List.set_cons_zero, List.set_cons_succ]
            (refine wpAnyLast_take (i := 12) (v := ?_) rfl (by kernel_rfl) (by kernel_rfl) (by kernel_rfl) (by kernel_rfl) (by kernel_rfl) (fun _ _ _ h => h) (Or.inl ⟨by rfl, ?_⟩) (by assumption) ?_; rotate_left 1; focus (intro ww hSw; (try dsimp only at hSw); go_simp; try with_reducible rfl)); try simp only [Act.put, List.setIfInBounds_toArray, List.set_cons_zero, List.set_cons_succ]
            (refine wpAnyLast_take (i := 13) (v := ?_) rfl (by kernel_rfl) (by kernel_rfl) (by kernel_rfl) (by kernel_rfl) (by kernel_rfl) (fun _ _ _ h => h) (Or.inl ⟨by rfl, ?_⟩) (by assumption) ?_; rotate_left 1; focus (intro ww hSw; (try dsimp only at hSw); go_simp; try with_reducible rfl)); try simp only [Act.put, List.setIfInBounds_toArray, List.set_cons_zero, List.set_cons_succ]
            (refine wpAnyLast_take (i := 14) (v := ?_) rfl (by kernel_rfl) (by kernel_rfl) (by kernel_rfl) (by kernel_rfl) (by kernel_rfl) (fun _ _ _ h => h) (Or.inl ⟨by rfl, ?_⟩) (by assumption) ?_; rotate_left 1; focus (intro ww hSw; (try dsimp only at hSw); go_simp; try with_reducible rfl)); try simp only [Act.put, List.setIfInBounds_toArray, List.set_cons_zero, List.set_cons_succ]
            (refine wpAnyLast_take (i := 15) (v := ?_) rfl (by kernel_rfl) (by kernel_rfl) (by kernel_rfl) (by kernel_rfl) (by kernel_rfl) (fun _ _ _ h => h) (Or.inl ⟨by rfl, ?_⟩) (by assumption) ?_; rotate_left 1; focus (intro ww hSw; (try dsimp only at hSw); go_simp; try with_reducible rfl)); try simp only [Act.put, List.setIfInBounds_toArray, List.set_cons_zero, List.set_cons_succ]
            (refine wpAnyLast_take (i := 16) (v := ?_) rfl (by kernel_rfl) (by kernel_rfl) (by kernel_rfl) (by kernel_rfl) (by kernel_rfl) (fun _ _ _ h => h) (Or.inl ⟨by rfl, ?_⟩) (by assumption) ?_; rotate_left 1; focus (intro ww hSw; (try dsimp only at hSw); go_simp; try with_reducible rfl)); try simp only [Act.put, List.setIfInBounds_toArray, List.set_cons_zero, List.set_cons_succ]
            (refine wpAnyLast_take (i := 17) (v := ?_) rfl (by kernel_rfl) (by kernel_rfl) (by kernel_rfl) (by kernel_rfl) (by kernel_rfl) (fun _ _ _ h => h) (Or.inl ⟨by rfl, ?_⟩) (by assumption) ?_; rotate_left 1; focus (intro ww hSw; (try dsimp only at hSw); go_simp; try with_reducible rfl)); try simp only [Act.put, List.setIfInBounds_toArray, List.set_cons_zero, List.set_cons_succ]
            (refine wpAnyLast_take (i := 18) (v := ?_) rfl (by kernel_rfl) (by kernel_rfl) (by kernel_rfl) (by kernel_rfl) (by kernel_rfl) (fun _ _ _ h => h) (Or.inl ⟨by rfl, ?_⟩) (by assumption) ?_; rotate_left 1; focus (intro ww hSw; (try dsimp only at hSw); go_simp; try with_reducible rfl)); try simp only [Act.put, List.setIfInBounds_toArray, List.set_cons_zero, List.set_cons_succ]
            (refine wpAnyLast_take (i := 19) (v := ?_) rfl (by kernel_rfl) (by kernel_rfl) (by kernel_rfl) (by kernel_rfl) (by kernel_rfl) (fun _ _ _ h => h) (Or.inl ⟨by rfl, ?_⟩) (by assumption) ?_; rotate_left 1; focus (intro ww hSw; (try dsimp only at hSw); go_simp; try with_reducible rfl)); try simp only [Act.put, List.setIfInBounds_toArray, List.set_cons_zero, List.set_cons_succ]
            (refine wpAnyLast_take (i := 20) (v := ?_) rfl (by kernel_rfl) (by kernel_rfl) (by kernel_rfl) (by kernel_rfl) (by kernel_rfl) (fun _ _ _ h => h) (Or.inl ⟨by rfl, ?_⟩) (by assumption) ?_; rotate_left 1; focus (intro ww hSw; (try dsimp only at hSw); go_simp; try with_reducible rfl)); try simp only [Act.put, List.setIfInBounds_toArray, List.set_cons_zero, List.set_cons_succ]
            (refine wpAnyLast_take (i := 21) (v := ?_) rfl (by kernel_rfl) (by kernel_rfl) (by kernel_rfl) (by kernel_rfl) (by kernel_rfl) (fun _ _ _ h => h) (Or.inl ⟨by rfl, ?_⟩) (by assumption) ?_; rotate_left 1; focus (intro ww hSw; (try dsimp only at hSw); go_simp; try with_reducible rfl)); try simp only [Act.put, List.setIfInBounds_toArray, List.set_cons_zero, List.set_cons_succ]
            (refine wpAnyLast_take (i := 22) (v := ?_) rfl (by kernel_rfl) (by kernel_rfl) (by kernel_rfl) (by kernel_rfl) (by kernel_rfl) (fun _ _ _ h => h) (Or.inl ⟨by rfl, ?_⟩) (by assumption) ?_; rotate_left 1; focus (intro ww hSw; (try dsimp only at hSw); go_simp; try with_reducible rfl)); try simp only [Act.put, List.setIfInBounds_toArray, List.set_cons_zero, List.set_cons_succ]
            (refine wpAnyLast_take (i := 23) (v := ?_) rfl (by kernel_rfl) (by kernel_rfl) (by kernel_rfl) (by kernel_rfl) (by kernel_rfl) (fun _ _ _ h => h) (Or.inl ⟨by rfl, ?_⟩) (by assumption) ?_; rotate_left 1; focus (intro ww hSw; (try dsimp only at hSw); go_simp; try with_reducible rfl)); try simp only [Act.put, List.setIfInBounds_toArray, List.set_cons_zero, List.set_cons_succ]
            (refine wpAnyLast_pure (i := 24) (v := ?_) rfl (by kernel_rfl) (by kernel_rfl) (by kernel_rfl) (fun _ _ _ h => h) (Or.inl ⟨by rfl, ?_⟩) ?_; rotate_left 1; focus (intro ww; go_simp; try with_reducible rfl)); try simp only [Act.put, List.setIfInBounds_toArray, List.set_cons_zero, List.set_cons_succ]
            have hz1 := HZ.out.1
            have hz3 := HZ.out.2.1
            have hz5 := HZ.out.2.2.1
            have hz6 := HZ.out.2.2.2
            have k1 := HQ.out.1.1
            have k3 := HQ.out.1.2.2.1
            have k4 := HQ.out.1.2.2.2
            have r3 := HQ.out.2.2.2.1
            have r4 := HQ.out.2.2.2.2
            refine wpAnyLast_ready (rs := [25]) (by kernel_rfl) (by simp) (AllReadyL.cons_last rfl (by decide) (fun K hK => ?_) AllReadyL.nil)
            (go_simp; refine hK _ _ ?_; clear hK K)
            (refine wpAnyLast_pure (i := 26) (v := ?_) rfl (by kernel_rfl) (by kernel_rfl) (by kernel_rfl) (fun _ _ _ h => h) (Or.inl ⟨by rfl, ?_⟩) ?_; rotate_left 1; focus (intro ww; go_simp; try with_reducible rfl)); try simp only [Act.put, List.setIfInBounds_toArray, List.set_cons_zero, List.set_cons_succ]
            refine wpAnyLast_ready (rs := [27]) (by kernel_rfl) (by simp) (AllReadyL.cons_last rfl (by decide) (fun K hK => ?_) AllReadyL.nil)
            (go_simp; refine hK _ _ ?_; clear hK K)
            refine wpAnyLast_done (by kernel_rfl) ?_ _;
            clear hz1 hz3 hz5 hz6 k1 k3 k4 r3 r4
            have p1 := put_kept (A := wr) HAD.out a' (.slice y.A y.l.length y.c) (.int .i64 (y.p : Int))
            have p2 := put_kept (A := (wr.setCell (ad.add (a' * 2)) (.slice y.A y.l.length y.c)).setCell ⟨(ad.add (a' * 2)).block, (ad.add (a' * 2)).off + 1, none⟩ (.int .i64 (y.p : Int))) HAD.out lst (.slice x.A x.l.length x.c) (.int .i64 (x.p : Int))
            have hh := HPUT.out
            rw [← HSW.out] at hh
            obtain ⟨W9, hW9⟩ : ∃ W9, (((wr.setCell (ad.add (a' * 2)) (.slice y.A y.l.length y.c)).setCell ⟨(ad.add (a' * 2)).block, (ad.add (a' * 2)).off + 1, none⟩ (.int .i64 (y.p : Int))).setCell (ad.add (lst * 2)) (.slice x.A x.l.length x.c)).setCell ⟨(ad.add (lst * 2)).block, (ad.add (lst * 2)).off + 1, none⟩ (.int .i64 (x.p : Int)) = W9 := ⟨_, rfl⟩
            have HB9 := Aside0.mk (show Below w0.heap.size w0 W9 ∧ w.heap.size ≤ W9.heap.size ∧ ∀ k, k < w.heap.size → k ≠ b → W9.heap[k]? = w.heap[k]? from by
              rw [← hW9]
              exact ⟨p2.2.1 (p1.2.1 HBB.out.1 HGB.out.2) HGB.out.2, by rw [p2.2.2, p1.2.2]; exact HBB.out.2.1, fun k hk hne => (p2.1 k hne).trans ((p1.1 k hne).trans (HBB.out.2.2 k hk hne))⟩)
            rw [hW9] at hh ⊢
            have HH9 := Aside0.mk hh
            clear p1 p2 hh hW9
            go_wp2
            go_roundg (F.length - lst)
            case measure => have h1 := HLO.out; have h2 := HLE.out; have h3 := HLA.out; have h4 := HI.out; omega
            case rel =>
              refine ⟨lst, swapF F' a' lst, rfl, ⟨HJ.out.2.2.2.2.1, Nat.le_refl _, by rw [swapF_len, HI.out.2.2.1], fun f hf => HI.out.2.2.2.1 f (mem_swapF hf), ?_⟩, ⟨HH9.out.below (Below.refl _ _).drew⟩, ⟨HB9.out.1.drew, HB9.out.2.1, HB9.out.2.2⟩⟩
              rw [← HI.out.2.2.2.2]
              conv => rhs; rw [sinkL]
              rw [if_neg (by rw [← HLE.out]; exact HLA.out), ← HLE.out]
              have h1 := HLO.out
              have h2 := HLE.out
              have h3 := HLA.out
              have h4 := HI.out
              exact sinkL_fuel _ _ _ _ (by rw [swapF_len]; omega) (by rw [swapF_len]; omega)
end Go.Proofs.Ytihdomhiiolojaa.P
