/- (*merge.Heap).sink: a front moves down to its place. No conditions. -/
import Derived.Test.YtihdomhiiolojaaMgHeap
import Derived.Scope
import Derived.Test.YtihdomhiiolojaaMgHeap
namespace Go.Proofs.Ytihdomhiiolojaa.P
open Go.RowKit Go.Proofs.YtihdomhiiolojaaW.PrintWords Go.Proofs.YtihdomhiiolojaaW.PrintLast Go.Proofs.YtihdomhiiolojaaW.PrintMore
set_option linter.unusedVariables false
set_option linter.unusedSimpArgs false

theorem w64i {x : Int} (h : -9223372036854775808 ≤ x ∧ x ≤ 9223372036854775807) : wrap64 x = x := by unfold wrap64; omega
theorem block_of_cell' {w : World} {a : Addr} {v : Value} (h : w.cell? a = some v) : a.block < w.heap.size := by
  by_cases hl : a.block < w.heap.size
  · exact hl
  · have : w.heap[a.block]? = none := Array.getElem?_eq_none (by omega)
    simp [World.cell?, this] at h
theorem cell_bl' {w C : World} {a : Addr} {v : Value} (h : w.cell? a = some v) (hb : Below w.heap.size w C) : C.cell? a = some v := (World.cell?_of_block (hb.block _ (block_of_cell' h))).trans h
/-- What the inner loop has found when k comes up. -/
def uptoF (F : List Fr) (a k : Nat) : Nat := if k ≤ 2 * a + 1 then a else if k ≤ 2 * a + 2 then pick1 F a (2 * a + 1) else pick1 F (pick1 F a (2 * a + 1)) (2 * a + 2)
theorem uptoF_lt {F : List Fr} {a k : Nat} (ha : a < F.length) (hk : k ≤ F.length) (hk2 : k ≤ 2 * a + 3) : uptoF F a k < F.length := by
  unfold uptoF
  split
  · exact ha
  · split
    · exact pick1_lt ha (by omega)
    · exact pick1_lt (pick1_lt ha (by omega)) (by omega)
theorem uptoF_step {F : List Fr} {a k : Nat} (hk : 2 * a + 1 ≤ k) (hk2 : k ≤ 2 * a + 2) : uptoF F a (k + 1) = pick1 F (uptoF F a k) k := by
  unfold uptoF
  rcases Nat.lt_or_eq_of_le hk with h | h
  · obtain rfl : k = 2 * a + 2 := by omega
    rw [if_neg (by omega), if_neg (by omega), if_neg (by omega), if_pos (by omega)]
  · obtain rfl : k = 2 * a + 1 := h.symm
    rw [if_neg (by omega), if_pos (by omega), if_pos (by omega)]
theorem uptoF_end {F : List Fr} {a k : Nat} (hk : 2 * a + 1 ≤ k) (hk2 : k ≤ 2 * a + 3) (he : k = 2 * a + 3 ∨ k ≥ F.length) (hkn : k = 2 * a + 1 ∨ k ≤ F.length) : uptoF F a k = leastF F a := by
  unfold uptoF leastF pick2
  by_cases h1 : k = 2 * a + 1
  · rw [if_pos (by omega), if_neg (by omega), if_neg (by omega)]
  · by_cases h2 : k = 2 * a + 2
    · rw [if_neg (by omega), if_pos (by omega), if_neg (by omega), if_pos (by omega)]
    · rw [if_neg (by omega), if_neg (by omega), if_pos (by omega), if_pos (by omega)]

/-- What sinking leaves: the other blocks lie as they lay. -/
def SkP (w0 : World) (w : World) (g b cap : Nat) (F : List Fr) (J : List Value) (a : Nat) (w' : World) : Prop :=
  Hp w' g b cap (sinkL (F.length + 1) F a) J ∧ Below w0.heap.size w0 w' ∧ w.heap.size ≤ w'.heap.size ∧ ∀ k, k < w.heap.size → k ≠ b → w'.heap[k]? = w.heap[k]?
set_option maxHeartbeats 4000000 in
set_option maxRecDepth 100000 in
theorem sink_calls (w0 : World) (g b cap : Nat) (F : List Fr) (J : List Value) (a : Nat) (w : World) (hH : Hp w g b cap F J) (hB : Below w0.heap.size w0 w) (hg : w0.heap.size ≤ g) (hb : w0.heap.size ≤ b) (hR : RowsOk w0 F) (ha : a < F.length) (hn : F.length ≤ 1000000000) :
    Calls Try.prog 21 #[.pointer (some ⟨g, 0, none⟩), .int .i64 (a : Int)] w fun e w' => (∃ v, e = .returned v) ∧ SkP w0 w g b cap F J a w' := by
  have hu := Try.underlying56
  have hu2 := Try.underlying50
  have HH := Aside0.mk hH
  have HB := Aside0.mk hB
  have HGB := Aside0.mk (And.intro hg hb)
  have HR := Aside0.mk hR
  have HA := Aside0.mk ha
  have HN := Aside0.mk hn
  clear hH hB hg hb hR ha hn
  go_enter Try.func21, Try.ntmps21
  go_wp2
  refine wp_scope_straight ?_
  go_wp2
  refine wp_label ?_
  go_wp2
  go_loopg [1] (F.length) (fun kq v1 w' => ∃ (a' : Nat) (F' : List Fr), v1 = .int .i64 (a' : Int) ∧ Aside0 (a' < F.length ∧ F.length - a' ≤ kq ∧ F'.length = F.length ∧ (∀ f ∈ F', f ∈ F) ∧ sinkL (F.length + 1) F' a' = sinkL (F.length + 1) F a) ∧ Aside0 (Hp w' g b cap F' J) ∧ Aside0 (Below w0.heap.size w0 w' ∧ w.heap.size ≤ w'.heap.size ∧ ∀ k, k < w.heap.size → k ≠ b → w'.heap[k]? = w.heap[k]?))
  case atStart => exact ⟨a, F, rfl, ⟨HA.out, by have := HA.out; omega, rfl, fun _ h => h, rfl⟩, HH, ⟨HB.out, Nat.le_refl _, fun _ _ _ => rfl⟩⟩
  case round =>
    obtain ⟨a', F', rfl, HI, HH', HBB⟩ := hrel
    clear HH HB
    have han := HI.out.1
    have hnn := HN.out
    obtain ⟨K1, hK1⟩ : ∃ x : Int, ((2 * a' + 1 : Nat) : Int) = x := ⟨_, rfl⟩
    obtain ⟨K2, hK2⟩ : ∃ x : Int, ((2 * a' + 2 : Nat) : Int) = x := ⟨_, rfl⟩
    obtain ⟨A2, hA2⟩ : ∃ x : Int, ((2 * a' : Nat) : Int) = x := ⟨_, rfl⟩
    obtain ⟨AI, hAI⟩ : ∃ x : Int, (a' : Int) = x := ⟨_, rfl⟩
    have m1 : wrap64 (2 * AI) = A2 := by rw [← hAI, ← hA2, w64i (by omega)]; omega
    have m2 : wrap64 (A2 + 1) = K1 := by rw [← hA2, ← hK1, w64i (by omega)]; omega
    have m3 : wrap64 (A2 + 2) = K2 := by rw [← hA2, ← hK2, w64i (by omega)]; omega
    have HAI := Aside0.mk hAI
    rw [hAI]
    clear hA2 hAI
    have HK := Aside0.mk (show ((2 * a' + 1 : Nat) : Int) = K1 ∧ ((2 * a' + 2 : Nat) : Int) = K2 from ⟨hK1, hK2⟩)
    have HAN := Aside0.mk han
    clear hK1 hK2 han hnn
    go_wp2
    try rw [m1]
    try rw [m2]
    go_loopg [4, 5] 3 (fun kq v4 v5 w' => ∃ (k lst : Nat), v4 = .int .i64 (lst : Int) ∧ v5 = .int .i64 (k : Int) ∧ Aside0 (2 * a' + 1 ≤ k ∧ k ≤ 2 * a' + 3 ∧ kq = 2 * a' + 4 - k ∧ lst = uptoF F' a' k ∧ lst < F.length ∧ (k = 2 * a' + 1 ∨ k ≤ F'.length)) ∧ Aside0 (Hp w' g b cap F' J) ∧ Aside0 (Below w0.heap.size w0 w' ∧ w.heap.size ≤ w'.heap.size ∧ ∀ k, k < w.heap.size → k ≠ b → w'.heap[k]? = w.heap[k]?))
    case atStart =>
      refine ⟨2 * a' + 1, a', by rw [HAI.out], by first | rw [HK.out.1] | rw [HK.out.1, m2], ⟨Nat.le_refl _, by omega, by omega, ?_, HAN.out, .inl rfl⟩, HH', HBB⟩
      unfold uptoF; rw [if_pos (Nat.le_refl _)]
    case round =>
      clear HH' HBB
      obtain ⟨k, lst, rfl, rfl, HJ, HH', HBB⟩ := hrel
      have hhead := HH'.out.head
      have hj := HJ.out
      have hlen := HI.out.2.2.1
      have hnn := HN.out
      have hKK := HK.out
      by_cases hc : k ≤ 2 * a' + 2 ∧ k < F'.length
      · obtain ⟨c1, c2⟩ := hc
        have d1 : decide ((k : Int) ≤ K2) = true := decide_eq_true (by omega)
        have d2 : decide ((k : Int) < (F'.length : Int)) = true := decide_eq_true (by omega)
        have d2b : decide (k < F'.length) = true := decide_eq_true c2
        obtain ⟨x, hx⟩ : ∃ x, F'[k]? = some x := ⟨_, List.getElem?_eq_getElem c2⟩
        obtain ⟨y, hy⟩ : ∃ y, F'[lst]? = some y := ⟨_, List.getElem?_eq_getElem (by omega)⟩
        have hxm := HR.out x (HI.out.2.2.2.1 x (List.mem_of_getElem? hx))
        have hym := HR.out y (HI.out.2.2.2.1 y (List.mem_of_getElem? hy))
        have HLS := Aside0.mk (fun W (hb : Below w0.heap.size w0 W) => mless_calls x y hxm.1 hym.1 W (hxm.2.2 W hb) hxm.2.1 (hym.2.2 W hb) hym.2.1)
        obtain ⟨ad, had⟩ : ∃ ad : Addr, ad = ⟨b, 0, none⟩ := ⟨_, rfl⟩
        have q1 := HH'.out.at0 hx had
        have q2 := HH'.out.at0 hy had
        rw [← had] at hhead
        have HAD := Aside0.mk had
        have i1 : (0 ≤ (k : Int)) = True := eq_true (by omega)
        have i2 : ((k : Int) < (F'.length : Int)) = True := eq_true (by omega)
        have i3 : (k < F'.length) = True := eq_true c2
        have j1 : (0 ≤ (lst : Int)) = True := eq_true (by omega)
        have j2 : ((lst : Int) < (F'.length : Int)) = True := eq_true (by omega)
        have j3 : (lst < F'.length) = True := eq_true (by omega)
        have hw1 : wrap64 ((k : Int) + 1) = ((k + 1 : Nat) : Int) := by rw [w64i (by omega)]; omega
        have HS0 := Aside0.mk (show wr.drew.cell? ⟨g, 0, none⟩ = some (.slice (some ad) F'.length cap) ∧ wr.drew.cell? (ad.add (k * 2)) = some (.slice x.A x.l.length x.c) ∧ wr.drew.cell? ⟨(ad.add (k * 2)).block, (ad.add (k * 2)).off + 1, none⟩ = some (.int .i64 (x.p : Int)) ∧ wr.drew.cell? (ad.add (lst * 2)) = some (.slice y.A y.l.length y.c) ∧ wr.drew.cell? ⟨(ad.add (lst * 2)).block, (ad.add (lst * 2)).off + 1, none⟩ = some (.int .i64 (y.p : Int)) from ⟨hhead, q1.1, q1.2.1, q2.1, q2.2.1⟩)
        have HX := Aside0.mk (And.intro hx hy)
        have HC := Aside0.mk (And.intro c1 c2)
        obtain ⟨r, hr⟩ : ∃ r, lessF x y = r := ⟨_, rfl⟩
        rw [hr] at HLS
        have HRR := Aside0.mk hr
        clear hj hlen hnn hKK c1 c2 hx hy hxm hym q1 q2 had hr
        go_wp2
        go_region_held3 (fun W' => W'.cell? ⟨g, 0, none⟩ = some (.slice (some ad) F'.length cap) ∧ W'.cell? (ad.add (k * 2)) = some (.slice x.A x.l.length x.c) ∧ W'.cell? ⟨(ad.add (k * 2)).block, (ad.add (k * 2)).off + 1, none⟩ = some (.int .i64 (x.p : Int)) ∧ W'.cell? (ad.add (lst * 2)) = some (.slice y.A y.l.length y.c) ∧ W'.cell? ⟨(ad.add (lst * 2)).block, (ad.add (lst * 2)).off + 1, none⟩ = some (.int .i64 (y.p : Int))) (first | (with_reducible exact HS9.out) | (with_reducible exact HS0.out))
          (first
            | (go_at_call 34; refine (HLS.out _ HBB.out.1.drew).mono ?_; rintro e w9 ⟨rfl, hb⟩; have HH9 := Aside0.mk ((HH'.out.below (Below.refl _ _).drew).below hb); have HB9 := Aside0.mk (show Below w0.heap.size w0 w9 ∧ w.heap.size ≤ w9.heap.size ∧ ∀ k, k < w.heap.size → k ≠ b → w9.heap[k]? = w.heap[k]? from ⟨HBB.out.1.drew.trans (hb.mono HBB.out.1.size), Nat.le_trans HBB.out.2.1 hb.size, fun k hk hne => (hb.block k (Nat.lt_of_lt_of_le hk HBB.out.2.1)).trans (HBB.out.2.2 k hk hne)⟩); have HS9 := Aside0.mk (And.intro (cell_bl' HS0.out.1 hb) (And.intro (cell_bl' HS0.out.2.1 hb) (And.intro (cell_bl' HS0.out.2.2.1 hb) (And.intro (cell_bl' HS0.out.2.2.2.1 hb) (cell_bl' HS0.out.2.2.2.2 hb))))); clear hb))
        all_goals
          cases r with
          | true =>
            go_wp2
            go_roundg (2 * a' + 4 - (k + 1))
            case measure => have := HJ.out; have := HC.out; omega
            case rel => exact ⟨k + 1, k, rfl, by rw [hw1], ⟨by have := HJ.out; omega, by have := HC.out; omega, rfl, by rw [uptoF_step HJ.out.1 HC.out.1, ← HJ.out.2.2.2.1]; unfold pick1; rw [HX.out.1, HX.out.2]; simp only []; rw [HRR.out, if_pos rfl], by rw [← HI.out.2.2.1]; exact HC.out.2, .inr HC.out.2⟩, HH9, HB9⟩
          | false =>
            go_wp2
            go_roundg (2 * a' + 4 - (k + 1))
            case measure => have := HJ.out; have := HC.out; omega
            case rel => exact ⟨k + 1, lst, rfl, by rw [hw1], ⟨by have := HJ.out; omega, by have := HC.out; omega, rfl, by rw [uptoF_step HJ.out.1 HC.out.1, ← HJ.out.2.2.2.1]; unfold pick1; rw [HX.out.1, HX.out.2]; simp only []; rw [HRR.out, if_neg (by decide)], HJ.out.2.2.2.2.1, .inr HC.out.2⟩, HH9, HB9⟩
      · have HLE := Aside0.mk (show lst = leastF F' a' by rw [hj.2.2.2.1]; exact uptoF_end hj.1 hj.2.1 (by omega) hj.2.2.2.2.2)
        have han := HI.out.1
        by_cases hk2 : k ≤ 2 * a' + 2
        · have d1 : decide ((k : Int) ≤ K2) = true := decide_eq_true (by omega)
          have d2 : decide ((k : Int) < (F'.length : Int)) = false := decide_eq_false (by omega)
          have d2b : decide (k < F'.length) = false := decide_eq_false (by omega)
          by_cases hla : lst = a'
          · have e1 : ((lst : Int) == AI) = true := beq_iff_eq.2 (by rw [← HAI.out]; omega)
            have HF := Aside0.mk (show sinkL (F.length + 1) F a = F' by rw [← HI.out.2.2.2.2, sinkL, if_pos (by rw [← HLE.out]; exact hla)])
            clear hla hc hk2 hj hlen hnn hKK han
            go_wp2
            unfold Exit.noGoto
            dsimp only
            refine bodyPost_end (results_none rfl _ _ _) rfl ?_
            exact ⟨⟨_, rfl⟩, by rw [HF.out]; exact HH'.out, HBB.out⟩
          · have e1 : ((lst : Int) == AI) = false := beq_eq_false_iff_ne.2 (by rw [← HAI.out]; omega)
            obtain ⟨x, hx⟩ : ∃ x, F'[a']? = some x := ⟨_, List.getElem?_eq_getElem (by omega)⟩
            obtain ⟨y, hy⟩ : ∃ y, F'[lst]? = some y := ⟨_, List.getElem?_eq_getElem (by omega)⟩
            obtain ⟨ad, had⟩ : ∃ ad : Addr, ad = ⟨b, 0, none⟩ := ⟨_, rfl⟩
            have q1 := HH'.out.at0 hx had
            have q2 := HH'.out.at0 hy had
            rw [← had] at hhead
            have HQ := Aside0.mk (And.intro q1 q2)
            obtain ⟨z1, z3, z5, z6, hz⟩ := swap_cells (p := ad.add (a' * 2)) (.slice y.A y.l.length y.c) (.int .i64 (y.p : Int)) (.slice x.A x.l.length x.c) q1.2.1 q2.1 q2.2.1
            have HZ := Aside0.mk hz
            have HAD := Aside0.mk had
            have hAn : AI.toNat = a' := by rw [← HAI.out]; omega
            have i1 : (0 ≤ AI) = True := eq_true (by rw [← HAI.out]; omega)
            have i2 : (AI < (F'.length : Int)) = True := eq_true (by rw [← HAI.out]; omega)
            have i3 : (a' < F'.length) = True := eq_true (by omega)
            have j1 : (0 ≤ (lst : Int)) = True := eq_true (by omega)
            have j2 : ((lst : Int) < (F'.length : Int)) = True := eq_true (by omega)
            have j3 : (lst < F'.length) = True := eq_true (by omega)
            have HX := Aside0.mk (And.intro hx hy)
            have HSW := Aside0.mk (show swapF F' a' lst = (F'.set a' y).set lst x by unfold swapF; rw [hx, hy])
            have HLO := Aside0.mk (leastF_or F' a')
            have HLA := Aside0.mk hla
            have HPUT := Aside0.mk ((HH'.out.put (i := a') (by omega) y had).put (i := lst) (by rw [List.length_set]; omega) x had)
            have hS : wr.drew.cell? ⟨g, 0, none⟩ = some (.slice (some ad) F'.length cap) ∧ wr.drew.cell? (ad.add (a' * 2)) = some (.slice x.A x.l.length x.c) ∧ wr.drew.cell? ⟨(ad.add (a' * 2)).block, (ad.add (a' * 2)).off + 1, none⟩ = some (.int .i64 (x.p : Int)) ∧ wr.drew.cell? (ad.add (lst * 2)) = some (.slice y.A y.l.length y.c) ∧ wr.drew.cell? ⟨(ad.add (lst * 2)).block, (ad.add (lst * 2)).off + 1, none⟩ = some (.int .i64 (y.p : Int)) := ⟨hhead, q1.1, q1.2.1, q2.1, q2.2.1⟩
            have HS := Aside0.mk hS
            clear hla hc hk2 hj hlen hnn hKK han hx hy hS had hz q1 q2
            go_wp2
            refine wp_region_last_drew (ds := [25, 27]) (S := fun W' => W'.cell? ⟨g, 0, none⟩ = some (.slice (some ad) F'.length cap) ∧ W'.cell? (ad.add (a' * 2)) = some (.slice x.A x.l.length x.c) ∧ W'.cell? ⟨(ad.add (a' * 2)).block, (ad.add (a' * 2)).off + 1, none⟩ = some (.int .i64 (x.p : Int)) ∧ W'.cell? (ad.add (lst * 2)) = some (.slice y.A y.l.length y.c) ∧ W'.cell? ⟨(ad.add (lst * 2)).block, (ad.add (lst * 2)).off + 1, none⟩ = some (.int .i64 (y.p : Int))) (by kernel_rfl) ?_ (fun hS0 => ?_);
            focus exact HS.out
            (refine wpAnyLast_take (i := 0) (v := ?_) rfl (by kernel_rfl) (by kernel_rfl) (by kernel_rfl) (by kernel_rfl) (by kernel_rfl) (fun _ _ _ h => h) (Or.inl ⟨by rfl, ?_⟩) (by assumption) ?_; rotate_left 1; focus (intro ww hSw; (try dsimp only at hSw); go_simp; try with_reducible rfl)); try simp only [Act.put, List.setIfInBounds_toArray, List.set_cons_zero, List.set_cons_succ]
            (refine wpAnyLast_take (i := 1) (v := ?_) rfl (by kernel_rfl) (by kernel_rfl) (by kernel_rfl) (by kernel_rfl) (by kernel_rfl) (fun _ _ _ h => h) (Or.inl ⟨by rfl, ?_⟩) (by assumption) ?_; rotate_left 1; focus (intro ww hSw; (try dsimp only at hSw); go_simp; try with_reducible rfl)); try simp only [Act.put, List.setIfInBounds_toArray, List.set_cons_zero, List.set_cons_succ]
            (refine wpAnyLast_take (i := 2) (v := ?_) rfl (by kernel_rfl) (by kernel_rfl) (by kernel_rfl) (by kernel_rfl) (by kernel_rfl) (fun _ _ _ h => h) (Or.inl ⟨by rfl, ?_⟩) (by assumption) ?_; rotate_left 1; focus (intro ww hSw; (try dsimp only at hSw); go_simp; try with_reducible rfl)); try simp only [Act.put, List.setIfInBounds_toArray, List.set_cons_zero, List.set_cons_succ]
            (refine wpAnyLast_take (i := 3) (v := ?_) rfl (by kernel_rfl) (by kernel_rfl) (by kernel_rfl) (by kernel_rfl) (by kernel_rfl) (fun _ _ _ h => h) (Or.inl ⟨by rfl, ?_⟩) (by assumption) ?_; rotate_left 1; focus (intro ww hSw; (try dsimp only at hSw); go_simp; try with_reducible rfl)); try simp only [Act.put, List.setIfInBounds_toArray, List.set_cons_zero, List.set_cons_succ]
            (refine wpAnyLast_take (i := 4) (v := ?_) rfl (by kernel_rfl) (by kernel_rfl) (by kernel_rfl) (by kernel_rfl) (by kernel_rfl) (fun _ _ _ h => h) (Or.inl ⟨by rfl, ?_⟩) (by assumption) ?_; rotate_left 1; focus (intro ww hSw; (try dsimp only at hSw); go_simp; try with_reducible rfl)); try simp only [Act.put, List.setIfInBounds_toArray, List.set_cons_zero, List.set_cons_succ]
            (refine wpAnyLast_take (i := 5) (v := ?_) rfl (by kernel_rfl) (by kernel_rfl) (by kernel_rfl) (by kernel_rfl) (by kernel_rfl) (fun _ _ _ h => h) (Or.inl ⟨by rfl, ?_⟩) (by assumption) ?_; rotate_left 1; focus (intro ww hSw; (try dsimp only at hSw); go_simp; try with_reducible rfl)); try simp only [Act.put, List.setIfInBounds_toArray, List.set_cons_zero, List.set_cons_succ]
            (refine wpAnyLast_take (i := 6) (v := ?_) rfl (by kernel_rfl) (by kernel_rfl) (by kernel_rfl) (by kernel_rfl) (by kernel_rfl) (fun _ _ _ h => h) (Or.inl ⟨by rfl, ?_⟩) (by assumption) ?_; rotate_left 1; focus (intro ww hSw; (try dsimp only at hSw); go_simp; try with_reducible rfl)); try simp only [Act.put, List.setIfInBounds_toArray, List.set_cons_zero, List.set_cons_succ]
            (refine wpAnyLast_take (i := 7) (v := ?_) rfl (by kernel_rfl) (by kernel_rfl) (by kernel_rfl) (by kernel_rfl) (by kernel_rfl) (fun _ _ _ h => h) (Or.inl ⟨by rfl, ?_⟩) (by assumption) ?_; rotate_left 1; focus (intro ww hSw; (try dsimp only at hSw); go_simp; try with_reducible rfl)); try simp only [Act.put, List.setIfInBounds_toArray, List.set_cons_zero, List.set_cons_succ]
            (refine wpAnyLast_take (i := 8) (v := ?_) rfl (by kernel_rfl) (by kernel_rfl) (by kernel_rfl) (by kernel_rfl) (by kernel_rfl) (fun _ _ _ h => h) (Or.inl ⟨by rfl, ?_⟩) (by assumption) ?_; rotate_left 1; focus (intro ww hSw; (try dsimp only at hSw); go_simp; try with_reducible rfl)); try simp only [Act.put, List.setIfInBounds_toArray, List.set_cons_zero, List.set_cons_succ]
            (refine wpAnyLast_pure (i := 9) (v := ?_) rfl (by kernel_rfl) (by kernel_rfl) (by kernel_rfl) (fun _ _ _ h => h) (Or.inl ⟨by rfl, ?_⟩) ?_; rotate_left 1; focus (intro ww; go_simp; try with_reducible rfl)); try simp only [Act.put, List.setIfInBounds_toArray, List.set_cons_zero, List.set_cons_succ]
            (refine wpAnyLast_take (i := 10) (v := ?_) rfl (by kernel_rfl) (by kernel_rfl) (by kernel_rfl) (by kernel_rfl) (by kernel_rfl) (fun _ _ _ h => h) (Or.inl ⟨by rfl, ?_⟩) (by assumption) ?_; rotate_left 1; focus (intro ww hSw; (try dsimp only at hSw); go_simp; try with_reducible rfl)); try simp only [Act.put, List.setIfInBounds_toArray, List.set_cons_zero, List.set_cons_succ]
            (refine wpAnyLast_take (i := 11) (v := ?_) rfl (by kernel_rfl) (by kernel_rfl) (by kernel_rfl) (by kernel_rfl) (by kernel_rfl) (fun _ _ _ h => h) (Or.inl ⟨by rfl, ?_⟩) (by assumption) ?_; rotate_left 1; focus (intro ww hSw; (try dsimp only at hSw); go_simp; try with_reducible rfl)); try simp only [Act.put, List.setIfInBounds_toArray, List.set_cons_zero, List.set_cons_succ]
            (refine wpAnyLast_take (i := 12) (v := ?_) rfl (by kernel_rfl) (by kernel_rfl) (by kernel_rfl) (by kernel_rfl) (by kernel_rfl) (fun _ _ _ h => h) (Or.inl ⟨by rfl, ?_⟩) (by assumption) ?_; rotate_left 1; focus (intro ww hSw; (try dsimp only at hSw); go_simp; try with_reducible rfl)); try simp only [Act.put, List.setIfInBounds_toArray, List.set_cons_zero, List.set_cons_succ]
            (refine wpAnyLast_take (i := 13) (v := ?_) rfl (by kernel_rfl) (by kernel_rfl) (by kernel_rfl) (by kernel_rfl) (by kernel_rfl) (fun _ _ _ h => h) (Or.inl ⟨by rfl, ?_⟩) (by assumption) ?_; rotate_left 1; focus (intro ww hSw; (try dsimp only at hSw); go_simp; try with_reducible rfl)); try simp only [Act.put, List.setIfInBounds_toArray, List.set_cons_zero, List.set_cons_succ]
            (refine wpAnyLast_take (i := 14) (v := ?_) rfl (by kernel_rfl) (by kernel_rfl) (by kernel_rfl) (by kernel_rfl) (by kernel_rfl) (fun _ _ _ h => h) (Or.inl ⟨by rfl, ?_⟩) (by assumption) ?_; rotate_left 1; focus (intro ww hSw; (try dsimp only at hSw); go_simp; try with_reducible rfl)); try simp only [Act.put, List.setIfInBounds_toArray, List.set_cons_zero, List.set_cons_succ]
            (refine wpAnyLast_take (i := 15) (v := ?_) rfl (by kernel_rfl) (by kernel_rfl) (by kernel_rfl) (by kernel_rfl) (by kernel_rfl) (fun _ _ _ h => h) (Or.inl ⟨by rfl, ?_⟩) (by assumption) ?_; rotate_left 1; focus (intro ww hSw; (try dsimp only at hSw); go_simp; try with_reducible rfl)); try simp only [Act.put, List.setIfInBounds_toArray, List.set_cons_zero, List.set_cons_succ]
            (refine wpAnyLast_take (i := 16) (v := ?_) rfl (by kernel_rfl) (by kernel_rfl) (by kernel_rfl) (by kernel_rfl) (by kernel_rfl) (fun _ _ _ h => h) (Or.inl ⟨by rfl, ?_⟩) (by assumption) ?_; rotate_left 1; focus (intro ww hSw; (try dsimp only at hSw); go_simp; try with_reducible rfl)); try simp only [Act.put, List.setIfInBounds_toArray, List.set_cons_zero, List.set_cons_succ]
            (refine wpAnyLast_take (i := 17) (v := ?_) rfl (by kernel_rfl) (by kernel_rfl) (by kernel_rfl) (by kernel_rfl) (by kernel_rfl) (fun _ _ _ h => h) (Or.inl ⟨by rfl, ?_⟩) (by assumption) ?_; rotate_left 1; focus (intro ww hSw; (try dsimp only at hSw); go_simp; try with_reducible rfl)); try simp only [Act.put, List.setIfInBounds_toArray, List.set_cons_zero, List.set_cons_succ]
            (refine wpAnyLast_take (i := 18) (v := ?_) rfl (by kernel_rfl) (by kernel_rfl) (by kernel_rfl) (by kernel_rfl) (by kernel_rfl) (fun _ _ _ h => h) (Or.inl ⟨by rfl, ?_⟩) (by assumption) ?_; rotate_left 1; focus (intro ww hSw; (try dsimp only at hSw); go_simp; try with_reducible rfl)); try simp only [Act.put, List.setIfInBounds_toArray, List.set_cons_zero, List.set_cons_succ]
            (refine wpAnyLast_take (i := 19) (v := ?_) rfl (by kernel_rfl) (by kernel_rfl) (by kernel_rfl) (by kernel_rfl) (by kernel_rfl) (fun _ _ _ h => h) (Or.inl ⟨by rfl, ?_⟩) (by assumption) ?_; rotate_left 1; focus (intro ww hSw; (try dsimp only at hSw); go_simp; try with_reducible rfl)); try simp only [Act.put, List.setIfInBounds_toArray, List.set_cons_zero, List.set_cons_succ]
            (refine wpAnyLast_take (i := 20) (v := ?_) rfl (by kernel_rfl) (by kernel_rfl) (by kernel_rfl) (by kernel_rfl) (by kernel_rfl) (fun _ _ _ h => h) (Or.inl ⟨by rfl, ?_⟩) (by assumption) ?_; rotate_left 1; focus (intro ww hSw; (try dsimp only at hSw); go_simp; try with_reducible rfl)); try simp only [Act.put, List.setIfInBounds_toArray, List.set_cons_zero, List.set_cons_succ]
            (refine wpAnyLast_take (i := 21) (v := ?_) rfl (by kernel_rfl) (by kernel_rfl) (by kernel_rfl) (by kernel_rfl) (by kernel_rfl) (fun _ _ _ h => h) (Or.inl ⟨by rfl, ?_⟩) (by assumption) ?_; rotate_left 1; focus (intro ww hSw; (try dsimp only at hSw); go_simp; try with_reducible rfl)); try simp only [Act.put, List.setIfInBounds_toArray, List.set_cons_zero, List.set_cons_succ]
            (refine wpAnyLast_take (i := 22) (v := ?_) rfl (by kernel_rfl) (by kernel_rfl) (by kernel_rfl) (by kernel_rfl) (by kernel_rfl) (fun _ _ _ h => h) (Or.inl ⟨by rfl, ?_⟩) (by assumption) ?_; rotate_left 1; focus (intro ww hSw; (try dsimp only at hSw); go_simp; try with_reducible rfl)); try simp only [Act.put, List.setIfInBounds_toArray, List.set_cons_zero, List.set_cons_succ]
            (refine wpAnyLast_take (i := 23) (v := ?_) rfl (by kernel_rfl) (by kernel_rfl) (by kernel_rfl) (by kernel_rfl) (by kernel_rfl) (fun _ _ _ h => h) (Or.inl ⟨by rfl, ?_⟩) (by assumption) ?_; rotate_left 1; focus (intro ww hSw; (try dsimp only at hSw); go_simp; try with_reducible rfl)); try simp only [Act.put, List.setIfInBounds_toArray, List.set_cons_zero, List.set_cons_succ]
            (refine wpAnyLast_pure (i := 24) (v := ?_) rfl (by kernel_rfl) (by kernel_rfl) (by kernel_rfl) (fun _ _ _ h => h) (Or.inl ⟨by rfl, ?_⟩) ?_; rotate_left 1; focus (intro ww; go_simp; try with_reducible rfl)); try simp only [Act.put, List.setIfInBounds_toArray, List.set_cons_zero, List.set_cons_succ]
            have hz1 := HZ.out.1
            have hz3 := HZ.out.2.1
            have hz5 := HZ.out.2.2.1
            have hz6 := HZ.out.2.2.2
            have k1 := HQ.out.1.1
            have k3 := HQ.out.1.2.2.1
            have k4 := HQ.out.1.2.2.2
            have r3 := HQ.out.2.2.2.1
            have r4 := HQ.out.2.2.2.2
            refine wpAnyLast_ready (rs := [25]) (by kernel_rfl) (by simp) (AllReadyL.cons_last rfl (by decide) (fun K hK => ?_) AllReadyL.nil)
            (go_simp; refine hK _ _ ?_; clear hK K)
            (refine wpAnyLast_pure (i := 26) (v := ?_) rfl (by kernel_rfl) (by kernel_rfl) (by kernel_rfl) (fun _ _ _ h => h) (Or.inl ⟨by rfl, ?_⟩) ?_; rotate_left 1; focus (intro ww; go_simp; try with_reducible rfl)); try simp only [Act.put, List.setIfInBounds_toArray, List.set_cons_zero, List.set_cons_succ]
            refine wpAnyLast_ready (rs := [27]) (by kernel_rfl) (by simp) (AllReadyL.cons_last rfl (by decide) (fun K hK => ?_) AllReadyL.nil)
            (go_simp; refine hK _ _ ?_; clear hK K)
            refine wpAnyLast_done (by kernel_rfl) ?_ _;
            clear hz1 hz3 hz5 hz6 k1 k3 k4 r3 r4
            have p1 := put_kept (A := wr) HAD.out a' (.slice y.A y.l.length y.c) (.int .i64 (y.p : Int))
            have p2 := put_kept (A := (wr.setCell (ad.add (a' * 2)) (.slice y.A y.l.length y.c)).setCell ⟨(ad.add (a' * 2)).block, (ad.add (a' * 2)).off + 1, none⟩ (.int .i64 (y.p : Int))) HAD.out lst (.slice x.A x.l.length x.c) (.int .i64 (x.p : Int))
            have hh := HPUT.out
            rw [← HSW.out] at hh
            obtain ⟨W9, hW9⟩ : ∃ W9, (((wr.setCell (ad.add (a' * 2)) (.slice y.A y.l.length y.c)).setCell ⟨(ad.add (a' * 2)).block, (ad.add (a' * 2)).off + 1, none⟩ (.int .i64 (y.p : Int))).setCell (ad.add (lst * 2)) (.slice x.A x.l.length x.c)).setCell ⟨(ad.add (lst * 2)).block, (ad.add (lst * 2)).off + 1, none⟩ (.int .i64 (x.p : Int)) = W9 := ⟨_, rfl⟩
            have HB9 := Aside0.mk (show Below w0.heap.size w0 W9 ∧ w.heap.size ≤ W9.heap.size ∧ ∀ k, k < w.heap.size → k ≠ b → W9.heap[k]? = w.heap[k]? from by
              rw [← hW9]
              exact ⟨p2.2.1 (p1.2.1 HBB.out.1 HGB.out.2) HGB.out.2, by rw [p2.2.2, p1.2.2]; exact HBB.out.2.1, fun k hk hne => (p2.1 k hne).trans ((p1.1 k hne).trans (HBB.out.2.2 k hk hne))⟩)
            rw [hW9] at hh ⊢
            have HH9 := Aside0.mk hh
            clear p1 p2 hh hW9
            go_wp2
            go_roundg (F.length - lst)
            case measure => have h1 := HLO.out; have h2 := HLE.out; have h3 := HLA.out; have h4 := HI.out; omega
            case rel =>
              refine ⟨lst, swapF F' a' lst, rfl, ⟨HJ.out.2.2.2.2.1, Nat.le_refl _, by rw [swapF_len, HI.out.2.2.1], fun f hf => HI.out.2.2.2.1 f (mem_swapF hf), ?_⟩, ⟨HH9.out.below (Below.refl _ _).drew⟩, ⟨HB9.out.1.drew, HB9.out.2.1, HB9.out.2.2⟩⟩
              rw [← HI.out.2.2.2.2]
              conv => rhs; rw [sinkL]
              rw [if_neg (by rw [← HLE.out]; exact HLA.out), ← HLE.out]
              have h1 := HLO.out
              have h2 := HLE.out
              have h3 := HLA.out
              have h4 := HI.out
              exact sinkL_fuel _ _ _ _ (by rw [swapF_len]; omega) (by rw [swapF_len]; omega)
        · have d1 : decide ((k : Int) ≤ K2) = false := decide_eq_false (by omega)
          by_cases hla : lst = a'
          · have e1 : ((lst : Int) == AI) = true := beq_iff_eq.2 (by rw [← HAI.out]; omega)
            have HF := Aside0.mk (show sinkL (F.length + 1) F a = F' by rw [← HI.out.2.2.2.2, sinkL, if_pos (by rw [← HLE.out]; exact hla)])
            clear hla hc hk2 hj hlen hnn hKK han
            go_wp2
            unfold Exit.noGoto
            dsimp only
            refine bodyPost_end (results_none rfl _ _ _) rfl ?_
            exact ⟨⟨_, rfl⟩, by rw [HF.out]; exact HH'.out, HBB.out⟩
          · have e1 : ((lst : Int) == AI) = false := beq_eq_false_iff_ne.2 (by rw [← HAI.out]; omega)
            obtain ⟨x, hx⟩ : ∃ x, F'[a']? = some x := ⟨_, List.getElem?_eq_getElem (by omega)⟩
            obtain ⟨y, hy⟩ : ∃ y, F'[lst]? = some y := ⟨_, List.getElem?_eq_getElem (by omega)⟩
            obtain ⟨ad, had⟩ : ∃ ad : Addr, ad = ⟨b, 0, none⟩ := ⟨_, rfl⟩
            have q1 := HH'.out.at0 hx had
            have q2 := HH'.out.at0 hy had
            rw [← had] at hhead
            have HQ := Aside0.mk (And.intro q1 q2)
            obtain ⟨z1, z3, z5, z6, hz⟩ := swap_cells (p := ad.add (a' * 2)) (.slice y.A y.l.length y.c) (.int .i64 (y.p : Int)) (.slice x.A x.l.length x.c) q1.2.1 q2.1 q2.2.1
            have HZ := Aside0.mk hz
            have HAD := Aside0.mk had
            have hAn : AI.toNat = a' := by rw [← HAI.out]; omega
            have i1 : (0 ≤ AI) = True := eq_true (by rw [← HAI.out]; omega)
            have i2 : (AI < (F'.length : Int)) = True := eq_true (by rw [← HAI.out]; omega)
            have i3 : (a' < F'.length) = True := eq_true (by omega)
            have j1 : (0 ≤ (lst : Int)) = True := eq_true (by omega)
            have j2 : ((lst : Int) < (F'.length : Int)) = True := eq_true (by omega)
            have j3 : (lst < F'.length) = True := eq_true (by omega)
            have HX := Aside0.mk (And.intro hx hy)
            have HSW := Aside0.mk (show swapF F' a' lst = (F'.set a' y).set lst x by unfold swapF; rw [hx, hy])
            have HLO := Aside0.mk (leastF_or F' a')
            have HLA := Aside0.mk hla
            have HPUT := Aside0.mk ((HH'.out.put (i := a') (by omega) y had).put (i := lst) (by rw [List.length_set]; omega) x had)
            have hS : wr.drew.cell? ⟨g, 0, none⟩ = some (.slice (some ad) F'.length cap) ∧ wr.drew.cell? (ad.add (a' * 2)) = some (.slice x.A x.l.length x.c) ∧ wr.drew.cell? ⟨(ad.add (a' * 2)).block, (ad.add (a' * 2)).off + 1, none⟩ = some (.int .i64 (x.p : Int)) ∧ wr.drew.cell? (ad.add (lst * 2)) = some (.slice y.A y.l.length y.c) ∧ wr.drew.cell? ⟨(ad.add (lst * 2)).block, (ad.add (lst * 2)).off + 1, none⟩ = some (.int .i64 (y.p : Int)) := ⟨hhead, q1.1, q1.2.1, q2.1, q2.2.1⟩
            have HS := Aside0.mk hS
            clear hla hc hk2 hj hlen hnn hKK han hx hy hS had hz q1 q2
            go_wp2
            refine wp_region_last_drew (ds := [25, 27]) (S := fun W' => W'.cell? ⟨g, 0, none⟩ = some (.slice (some ad) F'.length cap) ∧ W'.cell? (ad.add (a' * 2)) = some (.slice x.A x.l.length x.c) ∧ W'.cell? ⟨(ad.add (a' * 2)).block, (ad.add (a' * 2)).off + 1, none⟩ = some (.int .i64 (x.p : Int)) ∧ W'.cell? (ad.add (lst * 2)) = some (.slice y.A y.l.length y.c) ∧ W'.cell? ⟨(ad.add (lst * 2)).block, (ad.add (lst * 2)).off + 1, none⟩ = some (.int .i64 (y.p : Int))) (by kernel_rfl) ?_ (fun hS0 => ?_);
            focus exact HS.out
            (refine wpAnyLast_take (i := 0) (v := ?_) rfl (by kernel_rfl) (by kernel_rfl) (by kernel_rfl) (by kernel_rfl) (by kernel_rfl) (fun _ _ _ h => h) (Or.inl ⟨by rfl, ?_⟩) (by assumption) ?_; rotate_left 1; focus (intro ww hSw; (try dsimp only at hSw); go_simp; try with_reducible rfl)); try simp only [Act.put, List.setIfInBounds_toArray, List.set_cons_zero, List.set_cons_succ]
            (refine wpAnyLast_take (i := 1) (v := ?_) rfl (by kernel_rfl) (by kernel_rfl) (by kernel_rfl) (by kernel_rfl) (by kernel_rfl) (fun _ _ _ h => h) (Or.inl ⟨by rfl, ?_⟩) (by assumption) ?_; rotate_left 1; focus (intro ww hSw; (try dsimp only at hSw); go_simp; try with_reducible rfl)); try simp only [Act.put, List.setIfInBounds_toArray, List.set_cons_zero, List.set_cons_succ]
            (refine wpAnyLast_take (i := 2) (v := ?_) rfl (by kernel_rfl) (by kernel_rfl) (by kernel_rfl) (by kernel_rfl) (by kernel_rfl) (fun _ _ _ h => h) (Or.inl ⟨by rfl, ?_⟩) (by assumption) ?_; rotate_left 1; focus (intro ww hSw; (try dsimp only at hSw); go_simp; try with_reducible rfl)); try simp only [Act.put, List.setIfInBounds_toArray, List.set_cons_zero, List.set_cons_succ]
            (refine wpAnyLast_take (i := 3) (v := ?_) rfl (by kernel_rfl) (by kernel_rfl) (by kernel_rfl) (by kernel_rfl) (by kernel_rfl) (fun _ _ _ h => h) (Or.inl ⟨by rfl, ?_⟩) (by assumption) ?_; rotate_left 1; focus (intro ww hSw; (try dsimp only at hSw); go_simp; try with_reducible rfl)); try simp only [Act.put, List.setIfInBounds_toArray, List.set_cons_zero, List.set_cons_succ]
            (refine wpAnyLast_take (i := 4) (v := ?_) rfl (by kernel_rfl) (by kernel_rfl) (by kernel_rfl) (by kernel_rfl) (by kernel_rfl) (fun _ _ _ h => h) (Or.inl ⟨by rfl, ?_⟩) (by assumption) ?_; rotate_left 1; focus (intro ww hSw; (try dsimp only at hSw); go_simp; try with_reducible rfl)); try simp only [Act.put, List.setIfInBounds_toArray, List.set_cons_zero, List.set_cons_succ]
            (refine wpAnyLast_take (i := 5) (v := ?_) rfl (by kernel_rfl) (by kernel_rfl) (by kernel_rfl) (by kernel_rfl) (by kernel_rfl) (fun _ _ _ h => h) (Or.inl ⟨by rfl, ?_⟩) (by assumption) ?_; rotate_left 1; focus (intro ww hSw; (try dsimp only at hSw); go_simp; try with_reducible rfl)); try simp only [Act.put, List.setIfInBounds_toArray, List.set_cons_zero, List.set_cons_succ]
            (refine wpAnyLast_take (i := 6) (v := ?_) rfl (by kernel_rfl) (by kernel_rfl) (by kernel_rfl) (by kernel_rfl) (by kernel_rfl) (fun _ _ _ h => h) (Or.inl ⟨by rfl, ?_⟩) (by assumption) ?_; rotate_left 1; focus (intro ww hSw; (try dsimp only at hSw); go_simp; try with_reducible rfl)); try simp only [Act.put, List.setIfInBounds_toArray, List.set_cons_zero, List.set_cons_succ]
            (refine wpAnyLast_take (i := 7) (v := ?_) rfl (by kernel_rfl) (by kernel_rfl) (by kernel_rfl) (by kernel_rfl) (by kernel_rfl) (fun _ _ _ h => h) (Or.inl ⟨by rfl, ?_⟩) (by assumption) ?_; rotate_left 1; focus (intro ww hSw; (try dsimp only at hSw); go_simp; try with_reducible rfl)); try simp only [Act.put, List.setIfInBounds_toArray, List.set_cons_zero, List.set_cons_succ]
            (refine wpAnyLast_take (i := 8) (v := ?_) rfl (by kernel_rfl) (by kernel_rfl) (by kernel_rfl) (by kernel_rfl) (by kernel_rfl) (fun _ _ _ h => h) (Or.inl ⟨by rfl, ?_⟩) (by assumption) ?_; rotate_left 1; focus (intro ww hSw; (try dsimp only at hSw); go_simp; try with_reducible rfl)); try simp only [Act.put, List.setIfInBounds_toArray, List.set_cons_zero, List.set_cons_succ]
            (refine wpAnyLast_pure (i := 9) (v := ?_) rfl (by kernel_rfl) (by kernel_rfl) (by kernel_rfl) (fun _ _ _ h => h) (Or.inl ⟨by rfl, ?_⟩) ?_; rotate_left 1; focus (intro ww; go_simp; try with_reducible rfl)); try simp only [Act.put, List.setIfInBounds_toArray, List.set_cons_zero, List.set_cons_succ]
            (refine wpAnyLast_take (i := 10) (v := ?_) rfl (by kernel_rfl) (by kernel_rfl) (by kernel_rfl) (by kernel_rfl) (by kernel_rfl) (fun _ _ _ h => h) (Or.inl ⟨by rfl, ?_⟩) (by assumption) ?_; rotate_left 1; focus (intro ww hSw; (try dsimp only at hSw); go_simp; try with_reducible rfl)); try simp only [Act.put, List.setIfInBounds_toArray, List.set_cons_zero, List.set_cons_succ]
            (refine wpAnyLast_take (i := 11) (v := ?_) rfl (by kernel_rfl) (by kernel_rfl) (by kernel_rfl) (by kernel_rfl) (by kernel_rfl) (fun _ _ _ h => h) (Or.inl ⟨by rfl, ?_⟩) (by assumption) ?_; rotate_left 1; focus (intro ww hSw; (try dsimp only at hSw); go_simp; try with_reducible rfl)); try simp only [Act.put, List.setIfInBounds_toArray, List.set_cons_zero, List.set_cons_succ]
            (refine wpAnyLast_take (i := 12) (v := ?_) rfl (by kernel_rfl) (by kernel_rfl) (by kernel_rfl) (by kernel_rfl) (by kernel_rfl) (fun _ _ _ h => h) (Or.inl ⟨by rfl, ?_⟩) (by assumption) ?_; rotate_left 1; focus (intro ww hSw; (try dsimp only at hSw); go_simp; try with_reducible rfl)); try simp only [Act.put, List.setIfInBounds_toArray, List.set_cons_zero, List.set_cons_succ]
            (refine wpAnyLast_take (i := 13) (v := ?_) rfl (by kernel_rfl) (by kernel_rfl) (by kernel_rfl) (by kernel_rfl) (by kernel_rfl) (fun _ _ _ h => h) (Or.inl ⟨by rfl, ?_⟩) (by assumption) ?_; rotate_left 1; focus (intro ww hSw; (try dsimp only at hSw); go_simp; try with_reducible rfl)); try simp only [Act.put, List.setIfInBounds_toArray, List.set_cons_zero, List.set_cons_succ]
            (refine wpAnyLast_take (i := 14) (v := ?_) rfl (by kernel_rfl) (by kernel_rfl) (by kernel_rfl) (by kernel_rfl) (by kernel_rfl) (fun _ _ _ h => h) (Or.inl ⟨by rfl, ?_⟩) (by assumption) ?_; rotate_left 1; focus (intro ww hSw; (try dsimp only at hSw); go_simp; try with_reducible rfl)); try simp only [Act.put, List.setIfInBounds_toArray, List.set_cons_zero, List.set_cons_succ]
            (refine wpAnyLast_take (i := 15) (v := ?_) rfl (by kernel_rfl) (by kernel_rfl) (by kernel_rfl) (by kernel_rfl) (by kernel_rfl) (fun _ _ _ h => h) (Or.inl ⟨by rfl, ?_⟩) (by assumption) ?_; rotate_left 1; focus (intro ww hSw; (try dsimp only at hSw); go_simp; try with_reducible rfl)); try simp only [Act.put, List.setIfInBounds_toArray, List.set_cons_zero, List.set_cons_succ]
            (refine wpAnyLast_take (i := 16) (v := ?_) rfl (by kernel_rfl) (by kernel_rfl) (by kernel_rfl) (by kernel_rfl) (by kernel_rfl) (fun _ _ _ h => h) (Or.inl ⟨by rfl, ?_⟩) (by assumption) ?_; rotate_left 1; focus (intro ww hSw; (try dsimp only at hSw); go_simp; try with_reducible rfl)); try simp only [Act.put, List.setIfInBounds_toArray, List.set_cons_zero, List.set_cons_succ]
            (refine wpAnyLast_take (i := 17) (v := ?_) rfl (by kernel_rfl) (by kernel_rfl) (by kernel_rfl) (by kernel_rfl) (by kernel_rfl) (fun _ _ _ h => h) (Or.inl ⟨by rfl, ?_⟩) (by assumption) ?_; rotate_left 1; focus (intro ww hSw; (try dsimp only at hSw); go_simp; try with_reducible rfl)); try simp only [Act.put, List.setIfInBounds_toArray, List.set_cons_zero, List.set_cons_succ]
            (refine wpAnyLast_take (i := 18) (v := ?_) rfl (by kernel_rfl) (by kernel_rfl) (by kernel_rfl) (by kernel_rfl) (by kernel_rfl) (fun _ _ _ h => h) (Or.inl ⟨by rfl, ?_⟩) (by assumption) ?_; rotate_left 1; focus (intro ww hSw; (try dsimp only at hSw); go_simp; try with_reducible rfl)); try simp only [Act.put, List.setIfInBounds_toArray, List.set_cons_zero, List.set_cons_succ]
            (refine wpAnyLast_take (i := 19) (v := ?_) rfl (by kernel_rfl) (by kernel_rfl) (by kernel_rfl) (by kernel_rfl) (by kernel_rfl) (fun _ _ _ h => h) (Or.inl ⟨by rfl, ?_⟩) (by assumption) ?_; rotate_left 1; focus (intro ww hSw; (try dsimp only at hSw); go_simp; try with_reducible rfl)); try simp only [Act.put, List.setIfInBounds_toArray, List.set_cons_zero, List.set_cons_succ]
            (refine wpAnyLast_take (i := 20) (v := ?_) rfl (by kernel_rfl) (by kernel_rfl) (by kernel_rfl) (by kernel_rfl) (by kernel_rfl) (fun _ _ _ h => h) (Or.inl ⟨by rfl, ?_⟩) (by assumption) ?_; rotate_left 1; focus (intro ww hSw; (try dsimp only at hSw); go_simp; try with_reducible rfl)); try simp only [Act.put, List.setIfInBounds_toArray, List.set_cons_zero, List.set_cons_succ]
            (refine wpAnyLast_take (i := 21) (v := ?_) rfl (by kernel_rfl) (by kernel_rfl) (by kernel_rfl) (by kernel_rfl) (by kernel_rfl) (fun _ _ _ h => h) (Or.inl ⟨by rfl, ?_⟩) (by assumption) ?_; rotate_left 1; focus (intro ww hSw; (try dsimp only at hSw); go_simp; try with_reducible rfl)); try simp only [Act.put, List.setIfInBounds_toArray, List.set_cons_zero, List.set_cons_succ]
            (refine wpAnyLast_take (i := 22) (v := ?_) rfl (by kernel_rfl) (by kernel_rfl) (by kernel_rfl) (by kernel_rfl) (by kernel_rfl) (fun _ _ _ h => h) (Or.inl ⟨by rfl, ?_⟩) (by assumption) ?_; rotate_left 1; focus (intro ww hSw; (try dsimp only at hSw); go_simp; try with_reducible rfl)); try simp only [Act.put, List.setIfInBounds_toArray, List.set_cons_zero, List.set_cons_succ]
            (refine wpAnyLast_take (i := 23) (v := ?_) rfl (by kernel_rfl) (by kernel_rfl) (by kernel_rfl) (by kernel_rfl) (by kernel_rfl) (fun _ _ _ h => h) (Or.inl ⟨by rfl, ?_⟩) (by assumption) ?_; rotate_left 1; focus (intro ww hSw; (try dsimp only at hSw); go_simp; try with_reducible rfl)); try simp only [Act.put, List.setIfInBounds_toArray, List.set_cons_zero, List.set_cons_succ]
            (refine wpAnyLast_pure (i := 24) (v := ?_) rfl (by kernel_rfl) (by kernel_rfl) (by kernel_rfl) (fun _ _ _ h => h) (Or.inl ⟨by rfl, ?_⟩) ?_; rotate_left 1; focus (intro ww; go_simp; try with_reducible rfl)); try simp only [Act.put, List.setIfInBounds_toArray, List.set_cons_zero, List.set_cons_succ]
            have hz1 := HZ.out.1
            have hz3 := HZ.out.2.1
            have hz5 := HZ.out.2.2.1
            have hz6 := HZ.out.2.2.2
            have k1 := HQ.out.1.1
            have k3 := HQ.out.1.2.2.1
            have k4 := HQ.out.1.2.2.2
            have r3 := HQ.out.2.2.2.1
            have r4 := HQ.out.2.2.2.2
            refine wpAnyLast_ready (rs := [25]) (by kernel_rfl) (by simp) (AllReadyL.cons_last rfl (by decide) (fun K hK => ?_) AllReadyL.nil)
            (go_simp; refine hK _ _ ?_; clear hK K)
            (refine wpAnyLast_pure (i := 26) (v := ?_) rfl (by kernel_rfl) (by kernel_rfl) (by kernel_rfl) (fun _ _ _ h => h) (Or.inl ⟨by rfl, ?_⟩) ?_; rotate_left 1; focus (intro ww; go_simp; try with_reducible rfl)); try simp only [Act.put, List.setIfInBounds_toArray, List.set_cons_zero, List.set_cons_succ]
            refine wpAnyLast_ready (rs := [27]) (by kernel_rfl) (by simp) (AllReadyL.cons_last rfl (by decide) (fun K hK => ?_) AllReadyL.nil)
            (go_simp; refine hK _ _ ?_; clear hK K)
            refine wpAnyLast_done (by kernel_rfl) ?_ _;
            clear hz1 hz3 hz5 hz6 k1 k3 k4 r3 r4
            have p1 := put_kept (A := wr) HAD.out a' (.slice y.A y.l.length y.c) (.int .i64 (y.p : Int))
            have p2 := put_kept (A := (wr.setCell (ad.add (a' * 2)) (.slice y.A y.l.length y.c)).setCell ⟨(ad.add (a' * 2)).block, (ad.add (a' * 2)).off + 1, none⟩ (.int .i64 (y.p : Int))) HAD.out lst (.slice x.A x.l.length x.c) (.int .i64 (x.p : Int))
            have hh := HPUT.out
            rw [← HSW.out] at hh
            obtain ⟨W9, hW9⟩ : ∃ W9, (((wr.setCell (ad.add (a' * 2)) (.slice y.A y.l.length y.c)).setCell ⟨(ad.add (a' * 2)).block, (ad.add (a' * 2)).off + 1, none⟩ (.int .i64 (y.p : Int))).setCell (ad.add (lst * 2)) (.slice x.A x.l.length x.c)).setCell ⟨(ad.add (lst * 2)).block, (ad.add (lst * 2)).off + 1, none⟩ (.int .i64 (x.p : Int)) = W9 := ⟨_, rfl⟩
            have HB9 := Aside0.mk (show Below w0.heap.size w0 W9 ∧ w.heap.size ≤ W9.heap.size ∧ ∀ k, k < w.heap.size → k ≠ b → W9.heap[k]? = w.heap[k]? from by
              rw [← hW9]
              exact ⟨p2.2.1 (p1.2.1 HBB.out.1 HGB.out.2) HGB.out.2, by rw [p2.2.2, p1.2.2]; exact HBB.out.2.1, fun k hk hne => (p2.1 k hne).trans ((p1.1 k hne).trans (HBB.out.2.2 k hk hne))⟩)
            rw [hW9] at hh ⊢
            have HH9 := Aside0.mk hh
            clear p1 p2 hh hW9
            go_wp2
            go_roundg (F.length - lst)
            case measure => have h1 := HLO.out; have h2 := HLE.out; have h3 := HLA.out; have h4 := HI.out; omega
            case rel =>
              refine ⟨lst, swapF F' a' lst, rfl, ⟨HJ.out.2.2.2.2.1, Nat.le_refl _, by rw [swapF_len, HI.out.2.2.1], fun f hf => HI.out.2.2.2.1 f (mem_swapF hf), ?_⟩, ⟨HH9.out.below (Below.refl _ _).drew⟩, ⟨HB9.out.1.drew, HB9.out.2.1, HB9.out.2.2⟩⟩
              rw [← HI.out.2.2.2.2]
              conv => rhs; rw [sinkL]
              rw [if_neg (by rw [← HLE.out]; exact HLA.out), ← HLE.out]
              have h1 := HLO.out
              have h2 := HLE.out
              have h3 := HLA.out
              have h4 := HI.out
              exact sinkL_fuel _ _ _ _ (by rw [swapF_len]; omega) (by rw [swapF_len]; omega)
end Go.Proofs.Ytihdomhiiolojaa.P

namespace Go.Proofs.Ytihdomhiiolojaa.P
open Go.RowKit Go.Proofs.YtihdomhiiolojaaW.PrintWords Go.Proofs.YtihdomhiiolojaaW.PrintLast Go.Proofs.YtihdomhiiolojaaW.PrintMore
set_option linter.unusedVariables false
set_option linter.unusedSimpArgs false

theorem infoFr : (Try.prog.info? 56).map (fun i => (i.zero, i.size, i.bytes)) = some (some (.agg #[.slice none 0 0, .int .i64 0]), 2, 32) := by kernel_rfl
theorem at_row {w : World} {A : Option Addr} {rows : List (List En)} (h : Kd.C (Kd.slice 41 k41) w A rows.length rows) {i : Nat} {r : List En} (hr : rows[i]? = some r) :
    ∃ ad B c, A = some ad ∧ w.cell? (ad.add i) = some (.slice B r.length c) ∧ r.length ≤ c ∧ Kd.C k41 w B r.length r := by
  have hi := (List.getElem?_eq_some_iff.1 hr).1
  obtain ⟨ad, c, e, _, hK, hc0⟩ := Kd.C_get h ([] : List En) (i : Int) (by omega) (by omega)
  rw [Int.toNat_natCast] at hK hc0
  have hx : rows.getD i [] = r := by rw [List.getD_eq_getElem?_getD, hr]; rfl
  rw [hx] at hK
  obtain ⟨B, cc, rfl, l0, g0⟩ := hK
  exact ⟨ad, B, cc, e, by have hq := hc0 0 _ rfl; have hq2 : w.cell? (ad.add (i * 1 + 0)) = _ := hq; rwa [Nat.mul_one, Nat.add_zero] at hq2, l0, g0⟩
set_option maxHeartbeats 1000000 in
/-- Sinking where nothing stands. -/
theorem sink_nil (g : Nat) (A : Option Addr) (cap : Nat) (w : World) (hH : w.heap[g]? = some (.cells #[.slice A 0 cap] 50 (0, 0))) :
    Calls Try.prog 21 #[.pointer (some ⟨g, 0, none⟩), .int .i64 0] w fun e w' => (∃ v, e = .returned v) ∧ Drawn0 w w' := by
  have hhead : w.cell? ⟨g, 0, none⟩ = some (.slice A 0 cap) := (blk_cell hH 0).trans rfl
  have hu2 := Try.underlying50
  clear hH
  go_enter Try.func21, Try.ntmps21
  go_wp2
  refine wp_scope_straight ?_
  go_wp2
  refine wp_label ?_
  go_wp2
  go_loopg [1] 1 (fun kq v1 w' => v1 = .int .i64 0 ∧ Aside0 (Drawn0 w w') ∧ w' = w)
  case atStart => exact ⟨rfl, ⟨Drawn0.refl _⟩, rfl⟩
  case round =>
    obtain ⟨rfl, HD, rfl⟩ := hrel
    go_wp2
    go_loopg [4, 5] 1 (fun kq v4 v5 w' => v4 = .int .i64 0 ∧ v5 = .int .i64 1 ∧ w' = wr)
    case atStart => exact ⟨rfl, rfl, rfl⟩
    case round =>
      obtain ⟨rfl, rfl, rfl⟩ := hrel
      go_wp2
      unfold Exit.noGoto
      dsimp only
      refine bodyPost_end (results_none rfl _ _ _) rfl ?_
      exact ⟨⟨_, rfl⟩, HD.out⟩
/-- What New tells. -/
def NewP (w : World) (rows : List (List En)) (e : Ending) (w' : World) : Prop :=
  (newE rows ≠ 0 ∧ e = .returned (.tuple #[.pointer none, .int .i64 (newE rows)]) ∧ Below w.heap.size w w') ∨
  (newE rows = 0 ∧ ∃ g F, e = .returned (.tuple #[.pointer (some ⟨g, 0, none⟩), .int .i64 0]) ∧ HpS w w' g (heapifyL F (F.length / 2 + 1)) ∧ F.map prF = frsTo rows rows.length)
theorem frsTo_len (rows : List (List En)) : ∀ i, (frsTo rows i).length ≤ i
  | 0 => Nat.le_refl _
  | i + 1 => by
    have ih := frsTo_len rows i
    rw [frsTo]
    split
    · split
      · omega
      · rw [List.length_append, List.length_singleton]; omega
    · omega
theorem frsTo_nil {rows : List (List En)} {i : Nat} (h : rows[i]? = some []) : frsTo rows (i + 1) = frsTo rows i := by
  rw [frsTo, h]; exact if_pos rfl
theorem frsTo_one {rows : List (List En)} {i : Nat} {r : List En} (h : rows[i]? = some r) (hr : r ≠ []) : frsTo rows (i + 1) = frsTo rows i ++ [(r, i)] := by
  rw [frsTo, h]; exact if_neg hr
theorem HpS.drewd {w W W' : World} {g : Nat} {F : List Fr} (h : HpS w W g F) (hb : Below W.heap.size W W') : HpS w W' g F := by
  refine ⟨h.be.trans (hb.mono h.be.size), h.gt, h.ro, ?_⟩
  rcases h.st with ⟨h1, A, cap, h2⟩ | ⟨h1, b, cap, J, h2, h3⟩
  · exact .inl ⟨h1, A, cap, (hb.block _ (Array.getElem?_eq_some_iff.1 h2).1).trans h2⟩
  · exact .inr ⟨h1, b, cap, J, h2, h3.below hb⟩
theorem sinkS {w W : World} {g : Nat} {F : List Fr} (h : HpS w W g F) (a : Nat) (ha : a < F.length ∨ F.length = 0 ∧ a = 0) (hn : F.length ≤ 1000000000) :
    Calls Try.prog 21 #[.pointer (some ⟨g, 0, none⟩), .int .i64 (a : Int)] W fun e w' => (∃ v, e = .returned v) ∧ HpS w w' g (sinkL (F.length + 1) F a) := by
  rcases h.st with ⟨rfl, A, cap, h2⟩ | ⟨h1, b, cap, J, h2, h3⟩
  · obtain rfl : a = 0 := by rcases ha with ha | ha; exact absurd ha (Nat.not_lt_zero _); exact ha.2
    refine (sink_nil g A cap W h2).mono ?_
    rintro e w' ⟨he, hd⟩
    exact ⟨he, h.drewd hd.below⟩
  · have hl : 0 < F.length := List.length_pos_iff.2 h1
    refine (sink_calls w g b cap F J a W h3 h.be h.gt h2 h.ro (by omega) hn).mono ?_
    rintro e w' ⟨he, hs⟩
    exact ⟨he, hs.2.1, h.gt, fun f hf => h.ro f (mem_sinkL hf), .inr ⟨List.length_pos_iff.1 (by rw [sinkL_len]; exact hl), b, cap, J, h2, hs.1⟩⟩
theorem hpS_of {w W : World} {A : Option Addr} {c : Nat} {F : List Fr} (hb : Below w.heap.size w W) (hr : RowsOk w F) (hg : W.heap[w.heap.size]? = some (.cells #[.slice A F.length c] 50 (0, 0))) (ho : kF.R 56 W w.heap.size (fun _ => True) (.slice A F.length c) F) : HpS w W w.heap.size F := by
  refine ⟨hb, Nat.le_refl _, hr, ?_⟩
  by_cases hF : F = []
  · subst hF; exact .inl ⟨rfl, A, c, hg⟩
  · obtain ⟨b, cap, J, hbb, hv, hp⟩ := row_hp ho hF hg
    exact .inr ⟨hF, b, cap, J, hbb, hp⟩
set_option maxHeartbeats 4000000 in
set_option maxRecDepth 100000 in
theorem New_calls (A0 : Option Addr) (c0 : Nat) (rows : List (List En)) (w : World) (hr0 : Kd.C (Kd.slice 41 k41) w A0 rows.length rows) (hn : rows.length ≤ 100000000) :
    Calls Try.prog 12 #[.slice A0 rows.length c0] w fun e w' => NewP w rows e w' := by
  have hu := Try.underlying56
  have hu2 := Try.underlying50
  have hu3 := Try.underlying48
  have HR := Aside0.mk hr0
  have HN := Aside0.mk hn
  clear hr0 hn
  go_enter Try.func12, Try.ntmps12
  go_wp2
  go_loopg [13] (rows.length) (fun kq v13 w' => ∃ (i : Nat) (v : Value) (F : List Fr), v13 = .int .i64 (i : Int) ∧ Aside0 (i ≤ rows.length ∧ kq = rows.length - i) ∧ Aside0 (w'.heap[w.heap.size]? = some (.cells #[v] 50 (0, 0))) ∧ Aside0 (kF.R 56 w' w.heap.size (fun _ => True) v F) ∧ Aside0 (F.map prF = frsTo rows i) ∧ Aside0 (RowsOk w F) ∧ Aside0 (∀ q ∈ rows.take i, mrightE q = 0) ∧ Aside0 (Below w.heap.size w w'))
  case atStart => exact ⟨0, .slice none 0 0, [], rfl, ⟨Nat.zero_le _, rfl⟩, ⟨blk_new w _⟩, ⟨Kd.R_nil _ _ _ _ _⟩, ⟨rfl⟩, ⟨fun f hf => by simp at hf⟩, ⟨fun q hq => by simp at hq⟩, ⟨below_alloc (Below.refl _ _) _⟩⟩
  case round =>
    obtain ⟨i, v, F, rfl, HI, HG, HO, HF, HRO, HZ, HB⟩ := hrel
    by_cases hi : i < rows.length
    · obtain ⟨r, hr⟩ : ∃ r, rows[i]? = some r := ⟨_, List.getElem?_eq_getElem hi⟩
      obtain ⟨ad, B, c, rfl, hcw, hl0, hCw⟩ := at_row HR.out hr
      have hc0 := cell_bl' hcw HB.out
      have hC0 := Kd.C_below hCw HB.out
      have HCW := Aside0.mk hCw
      clear hcw hCw
      have d1 : decide ((i : Int) < (rows.length : Int)) = true := decide_eq_true (by omega)
      have d1b : decide (i < rows.length) = true := decide_eq_true hi
      have i1 : (0 ≤ (i : Int)) = True := eq_true (by omega)
      have i2 : ((i : Int) < (rows.length : Int)) = True := eq_true (by omega)
      have i3 : (i < rows.length) = True := eq_true hi
      have hw1 : wrap64 ((i : Int) + 1) = ((i + 1 : Nat) : Int) := by have := HN.out; unfold wrap64; omega
      have HI1 := Aside0.mk hi
      have HRW := Aside0.mk hr
      have HL0 := Aside0.mk hl0
      have HC0 := Aside0.mk hC0
      obtain ⟨z, hz⟩ : ∃ z, mrightE r = z := ⟨_, rfl⟩
      have hcall := mright_calls B c r wr hC0
      rw [hz] at hcall
      have HCALL := Aside0.mk hcall
      have HZZ := Aside0.mk hz
      clear hi hr hl0 hC0 hz hcall
      by_cases hz0 : z = 0
      · subst hz0
        have HTK := Aside0.mk (show ∀ q ∈ rows.take (i + 1), mrightE q = 0 from by
          intro q hq
          rw [List.take_add_one, HRW.out] at hq
          rcases List.mem_append.1 hq with h | h
          · exact HZ.out q h
          · obtain rfl : q = r := by simpa using h
            exact HZZ.out)
        by_cases hr0 : r = []
        · subst hr0
          go_wp2_with (first
            | (go_at_call 20; refine (HCALL.out).mono ?_; rintro e w9 ⟨rfl, hb⟩; have HB9 := Aside0.mk (HB.out.trans (hb.mono HB.out.size)); have HG9 := Aside0.mk ((hb.block _ (Array.getElem?_eq_some_iff.1 HG.out).1).trans HG.out); have HO9 := Aside0.mk (Kd.R_below HO.out hb); clear hb))
          go_roundg (rows.length - (i + 1))
          case measure => have := HI.out; have := HI1.out; omega
          case rel => exact ⟨i + 1, v, F, by first | rfl | rw [hw1], ⟨HI1.out, rfl⟩, HG9, HO9, ⟨by rw [frsTo_nil HRW.out]; exact HF.out⟩, HRO, HTK, HB9⟩
        · have d2 : decide (0 < (r.length : Int)) = true := decide_eq_true (by have := List.length_pos_iff.2 hr0; omega)
          have d2b : decide (0 < r.length) = true := decide_eq_true (List.length_pos_iff.2 hr0)
          obtain ⟨f, hf⟩ : ∃ f : Fr, f = ⟨B, c, r, i⟩ := ⟨_, rfl⟩
          have HF1 := Aside0.mk (show (F ++ [f]).map prF = frsTo rows (i + 1) by rw [frsTo_one HRW.out hr0, List.map_append, HF.out, hf]; rfl)
          have HRO1 := Aside0.mk (show RowsOk w (F ++ [f]) from by
            intro x hx
            rcases List.mem_append.1 hx with h | h
            · exact HRO.out x h
            · obtain rfl : x = f := by simpa using h
              rw [hf]
              refine ⟨hr0, HL0.out, fun W hW => Kd.C_below HCW.out hW⟩)
          have HFL := Aside0.mk (show (F.length + 1) * 32 ≤ 140737488355328 from by
            have h1 := congrArg List.length HF.out
            rw [List.length_map] at h1
            have h2 := frsTo_len rows i
            have h3 := HI1.out
            have h4 := HN.out
            omega)
          have HFF := Aside0.mk hf
          have hcg : wr.cell? ⟨w.heap.size, 0, none⟩ = some v := (blk_cell HG.out 0).trans rfl
          clear hr0 hf
          go_wp2_with (first
            | (go_at_call 20; refine (HCALL.out).mono ?_; rintro e w9 ⟨rfl, hb⟩; have HB9 := Aside0.mk (HB.out.trans (hb.mono HB.out.size)); have hg9 := ((hb.block _ (Array.getElem?_eq_some_iff.1 HG.out).1).trans HG.out); have hcg9 : w9.cell? ⟨w.heap.size, 0, none⟩ = some v := (blk_cell hg9 0).trans rfl; have HG9 := Aside0.mk hg9; have HO9 := Aside0.mk (Kd.R_below HO.out hb); clear hb hg9)
            | ((with_reducible refine gate_builtin (b := .append) (xs := #[.tmp 30, .tmp 34]) rfl ?_); at_builtin; refine Kd.R_append kF (w0 := w) w.heap.size rfl (.tmp 30) (.tmp 34) 48 56 (.agg #[.slice none 0 0, .int .i64 0]) 32 rfl Try.underlying48 infoFr rfl (by decide) (by omega) v F f [.slice B r.length c, .int .i64 (i : Int)] (fun _ => True) (fun _ => False) rfl rfl ?aP (fun _ hk => hk.elim) ?aF ?aO ?aB ?aS ?aL ?_; (case aP => (rw [HFF.out]; exact rfl)); (case aF => exact (fun _ _ => trivial)); (case aO => exact HO9.out); (case aB => exact HB9.out); (case aS => exact HB9.out.size); (case aL => exact HFL.out); intro v1 w1 ho hb hg hat; obtain ⟨A1, c1, hv1⟩ := Kd.R_slice ho; rw [List.length_append, List.length_singleton] at hv1; subst hv1; have hg1 := blk_grown HG9.out hg (Kd.R_ne HO9.out HG9.out (by decide)); have hcg1 : w1.cell? ⟨w.heap.size, 0, none⟩ = some v := (blk_cell hg1 0).trans rfl; have hfz1 : w1.frozen? ⟨w.heap.size, 0, none⟩ = false := blk_frozen hg1 0; have HO1 := Aside0.mk ho; have HB1 := Aside0.mk hb; have HG1 := Aside0.mk hg1; clear ho hb hg hat hg1))
          go_roundg (rows.length - (i + 1))
          case measure => have := HI.out; have := HI1.out; omega
          case rel => exact ⟨i + 1, _, F ++ [f], by first | rfl | rw [hw1], ⟨HI1.out, rfl⟩, ⟨blk_set HG1.out 0 _⟩, ⟨Kd.R_set HO1.out HG1.out (by intro q hq; obtain rfl : q = 56 := List.mem_singleton.1 hq; decide) 0 _⟩, HF1, HRO1, HTK, ⟨below_set HB1.out (Nat.le_refl _)⟩⟩
      · have e1 : (z == 0) = false := beq_eq_false_iff_ne.2 hz0
        have HNE := Aside0.mk (show newE rows = z from (newE_hit HRW.out (by rw [HZZ.out]; exact hz0) HZ.out).trans HZZ.out)
        have HZ0 := Aside0.mk hz0
        clear hz0
        go_wp2_with (first
          | (go_at_call 20; refine (HCALL.out).mono ?_; rintro e w9 ⟨rfl, hb⟩; have HB9 := Aside0.mk (HB.out.trans (hb.mono HB.out.size)); clear hb))
        refine bodyPost_ret (results_tmp2 rfl _ _ _) rfl ?_
        exact .inl ⟨by rw [HNE.out]; exact HZ0.out, by rw [HNE.out]; rfl, HB9.out⟩
    · have d1 : decide ((i : Int) < (rows.length : Int)) = false := decide_eq_false (by omega)
      have d1b : decide (i < rows.length) = false := decide_eq_false hi
      have hir : i = rows.length := by have := HI.out; omega
      have HE := Aside0.mk (show newE rows = 0 from newE_none (fun q hq => HZ.out q (by rw [hir, List.take_length]; exact hq)))
      have HFE := Aside0.mk (show F.map prF = frsTo rows rows.length by rw [← hir]; exact HF.out)
      obtain ⟨A, c, hv⟩ := Kd.R_slice HO.out
      subst hv
      have hcg : wr.cell? ⟨w.heap.size, 0, none⟩ = some (.slice A F.length c) := (blk_cell HG.out 0).trans rfl
      have hFn : F.length ≤ 100000000 := by
        have h1 := congrArg List.length HF.out
        rw [List.length_map] at h1
        have h2 := frsTo_len rows i
        have h3 := HI.out.1
        have h4 := HN.out
        omega
      have HFN := Aside0.mk hFn
      have HH := Aside0.mk (hpS_of HB.out HRO.out HG.out HO.out)
      obtain ⟨n2, hn2⟩ : ∃ n2 : Int, n2 = ((F.length / 2 : Nat) : Int) := ⟨_, rfl⟩
      have hq1 : Int.tdiv (F.length : Int) 2 = n2 := by rw [Int.tdiv_eq_ediv_of_nonneg (by omega)]; omega
      have hq2 : wrap64 n2 = n2 := by unfold wrap64; omega
      have HN2 := Aside0.mk hn2
      clear hi hir hFn HG HO HF HZ HB hn2
      go_wp2
      rw [hq2]
      clear hq2 hq1
      go_loopg [8] (F.length / 2 + 1) (fun kq v8 w' => ∃ (k : Nat) (iv : Int) (F2 : List Fr), v8 = .int .i64 iv ∧ Aside0 (iv = (k : Int) - 1 ∧ k ≤ F.length / 2 + 1 ∧ kq = k ∧ F2.length = F.length ∧ heapifyL F2 k = heapifyL F (F.length / 2 + 1)) ∧ Aside0 (HpS w w' w.heap.size F2))
      case atStart => exact ⟨F.length / 2 + 1, _, F, rfl, ⟨by have := HN2.out; omega, Nat.le_refl _, rfl, rfl, rfl⟩, HH⟩
      case round =>
        clear HH
        obtain ⟨k, iv, F2, rfl, HI2, HH2⟩ := hrel
        by_cases hk : k = 0
        · have e1 : decide (0 ≤ iv) = false := decide_eq_false (by have := HI2.out; omega)
          have HK := Aside0.mk hk
          clear hk
          go_wp2
          refine bodyPost_ret (results_tmp2 rfl _ _ _) rfl ?_
          refine .inr ⟨HE.out, w.heap.size, F, rfl, ?_, HFE.out⟩
          have h2 := HI2.out.2.2.2.2
          rw [HK.out] at h2
          rw [← h2]
          exact HH2.out
        · obtain ⟨j, rfl⟩ : ∃ j, k = j + 1 := ⟨k - 1, by omega⟩
          obtain rfl : iv = (j : Int) := by have := HI2.out; omega
          have e1 : decide (0 ≤ (j : Int)) = true := decide_eq_true (by omega)
          have hw1 : wrap64 ((j : Int) - 1) = (j : Int) - 1 := by have := HI2.out; have := HFN.out; unfold wrap64; omega
          have HW1 := Aside0.mk hw1
          have HCALL := Aside0.mk (sinkS HH2.out j (by have := HI2.out; omega) (by have := HI2.out; have := HFN.out; omega))
          clear hk hw1
          go_wp2_with (first
            | (go_at_call 21; refine (HCALL.out).mono ?_; rintro e w9 ⟨⟨u9, rfl⟩, hb⟩; have HH9 := Aside0.mk hb; clear hb))
          go_roundg j
          case measure => have := HI2.out; omega
          case rel => exact ⟨j, _, sinkL (F2.length + 1) F2 j, rfl, ⟨by rw [HW1.out], by have := HI2.out; omega, rfl, by rw [sinkL_len]; exact HI2.out.2.2.2.1, by have h := HI2.out.2.2.2.2; rw [heapifyL] at h; exact h⟩, HH9⟩
end Go.Proofs.Ytihdomhiiolojaa.P
