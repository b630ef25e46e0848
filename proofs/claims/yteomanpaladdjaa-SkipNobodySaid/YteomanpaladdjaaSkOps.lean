/- The skip list's small calls, and Put, over a list of entries. No conditions. -/
import Derived.Test.YteomanpaladdjaaSkPut
namespace Go.Proofs.Yteomanpaladdjaa.P
open Go.RowKit Go.Proofs.Yteomanpaladdjaa.Pure Go.Proofs.YteomanpaladdjaaW.PrintWords Go.Proofs.YteomanpaladdjaaW.PrintLast Go.Proofs.YteomanpaladdjaaW.PrintMore
set_option linter.unusedVariables false
set_option linter.unusedSimpArgs false
/-- The entries that a list may hold. -/
structure GoodL (es : List En) : Prop where
  rises : Rises es
  byt : ∀ y ∈ es, Byt y
  good : ∀ y ∈ es, GoodA y.f1
  keys : ∀ y ∈ es, 0 < y.f0.length ∧ y.f0.length ≤ 256
  most : es.length ≤ 4096
theorem okW_good {a : Ag} (h : GoodA a) : okW a := h.1.2.2.1
theorem sizeE_app (l m : List En) : sizeE (l ++ m) = sizeE l + sizeE m := by unfold sizeE; rw [List.map_append, List.sum_append]
theorem sizeE_cons (x : En) (m : List En) : sizeE (x :: m) = ((x.f0.length : Int) + 41) + sizeE m := by unfold sizeE; rw [List.map_cons, List.sum_cons]
theorem sizeE_bound : ∀ {es : List En}, (∀ y ∈ es, y.f0.length ≤ 256) → 0 ≤ sizeE es ∧ sizeE es ≤ 297 * es.length
  | [], _ => by simp [sizeE]
  | y :: l, h => by
    have h1 := sizeE_bound (es := l) (fun z hz => h z (List.mem_cons_of_mem _ hz))
    have h2 := h y (List.mem_cons_self ..)
    rw [sizeE_cons, List.length_cons]
    omega
theorem rises_nd : ∀ {ns : List Nd}, NdRise ns → Rises (ns.map (·.e)) := fun h => by
  unfold Rises
  rw [List.pairwise_map]
  exact h
theorem skErr_zero {es : List En} {fr : Bool} {x : En} {h : Int} (h0 : skErr es fr x h = 0) : 1 ≤ h ∧ h ≤ 8 ∧ fr = false ∧ 1 ≤ x.f0.length ∧ x.f0.length ≤ 256 ∧ x.f1.f0 ≠ 0 ∧ rightB x.f1 = true ∧ (es.any (fun y => decide (cmpI y.f0 x.f0 = 0)) = true ∨ es.length < 4096) := by
  unfold skErr at h0
  by_cases c1 : h < 1 ∨ 8 < h
  · rw [if_pos c1] at h0; omega
  rw [if_neg c1] at h0
  by_cases c2 : fr = true
  · rw [if_pos c2] at h0; omega
  rw [if_neg c2] at h0
  by_cases c3 : x.f0.length < 1 ∨ 256 < x.f0.length
  · rw [if_pos c3] at h0; omega
  rw [if_neg c3] at h0
  by_cases c4 : x.f1.f0 = 0 ∨ rightB x.f1 = false
  · rw [if_pos c4] at h0; omega
  rw [if_neg c4] at h0
  refine ⟨by omega, by omega, by simpa using c2, by omega, by omega, fun e => c4 (.inl e), by cases hr : rightB x.f1 with | true => rfl | false => exact absurd (.inr hr) c4, ?_⟩
  by_cases c5 : es.any (fun y => decide (cmpI y.f0 x.f0 = 0)) = true
  · exact .inl c5
  · rw [if_neg c5] at h0
    by_cases c6 : 4096 ≤ es.length
    · rw [if_pos c6] at h0; omega
    · exact .inr (by omega)
theorem putL_len_of {x : En} : ∀ {l : List En}, Rises l → l.any (fun y => decide (cmpI y.f0 x.f0 = 0)) = true → (putL l x).length = l.length
  | [], _, h => by simp at h
  | y :: l, hr, h => by
    rw [putL]
    by_cases c1 : cmpI y.f0 x.f0 < 0
    · rw [if_pos c1, List.length_cons, List.length_cons, putL_len_of (List.pairwise_cons.1 hr).2]
      rw [List.any_cons, decide_eq_false (by omega), Bool.false_or] at h
      exact h
    · rw [if_neg c1]
      by_cases c2 : cmpI y.f0 x.f0 = 0
      · rw [if_pos c2]; rfl
      · exfalso
        rw [List.any_eq_true] at h
        obtain ⟨z, hz, hz2⟩ := h
        have hz2 := of_decide_eq_true hz2
        rcases List.mem_cons.1 hz with rfl | hz
        · exact c2 hz2
        · have h1 := (List.pairwise_cons.1 hr).1 z hz
          have h2 : cmpI x.f0 y.f0 < 0 := cmpI_neg.2 (by omega)
          have := cmpI_trans h2 h1
          have := cmpI_anti x.f0 z.f0
          omega
theorem GoodL.put {es : List En} {fr : Bool} {x : En} {h : Int} (hg : GoodL es) (hx : Byt x) (ho : Go.Proofs.Yteomanpaladdjaa.P.OkAg x.f1) : GoodL (skNew es fr x h) := by
  unfold skNew
  by_cases h0 : skErr es fr x h = 0
  · rw [if_pos h0]
    obtain ⟨e1, e2, e3, e4, e5, e6, e7, e8⟩ := skErr_zero h0
    have hgx : GoodA x.f1 := ⟨ho, e7⟩
    refine ⟨putL_rises hg.rises, putL_all hg.byt hx (fun y hy => hx), putL_good hg.good hgx, putL_all hg.keys ⟨e4, e5⟩ (fun y hy => ⟨e4, e5⟩), ?_⟩
    rcases e8 with e8 | e8
    · rw [putL_len_of hg.rises e8]; exact hg.most
    · have := putL_len es x; omega
  · rw [if_neg h0]; exact hg
theorem Put_S (W : World) (base : Nat) (ok : Nat → Prop) (g : Nat) (es : List En) (fr : Bool) (hS : SkS W base ok g es fr) (hg : GoodL es) (A : Option Addr) (c : Nat) (x : En) (height : Int) (hx : Kd.C (Kd.int .u8) W A x.f0.length x.f0) (hc : x.f0.length ≤ c) (hb : Byt x) (ho : OkAg x.f1) :
    Calls Try.prog 18 #[.pointer (some ⟨g, 0, none⟩), enV A c x, .int .i64 height] W fun e w' => e = .returned (.int .i64 (skErr es fr x height)) ∧ SkS w' base (fun k => ok k ∨ W.heap.size ≤ k) g (skNew es fr x height) fr ∧ W.heap.size ≤ w'.heap.size ∧ SameIO W w' ∧ ∀ k, k < W.heap.size → ¬ ok k → w'.heap[k]? = W.heap[k]? := by
  obtain ⟨ns, rfl, hL⟩ := hS
  by_cases hbad : height < 1 ∨ 8 < height ∨ fr = true ∨ x.f0.length < 1 ∨ 256 < x.f0.length ∨ x.f1.f0 = 0 ∨ rightB x.f1 = false
  · refine (Put_err W base ok g ns _ _ fr hL.mid A c x height (ns.map (·.e)) hbad).mono ?_
    rintro e w' ⟨rfl, hw⟩
    refine ⟨rfl, ?_, hw.size, SameIO.of_below hw, fun k hk _ => hw.block k hk⟩
    have hne : skErr (ns.map (·.e)) fr x height ≠ 0 := fun e => by
      obtain ⟨e1, e2, e3, e4, e5, e6, e7, _⟩ := skErr_zero e
      rcases hbad with h | h | h | h | h | h | h
      · omega
      · omega
      · rw [e3] at h; cases h
      · omega
      · omega
      · exact e6 h
      · rw [e7] at h; cases h
    unfold skNew
    rw [if_neg hne]
    exact ⟨ns, rfl, (hL.below hw).mono (fun k hk => .inl hk)⟩
  · have b1 : ¬ (height < 1 ∨ 8 < height) := fun h => hbad (h.elim .inl (fun h => .inr (.inl h)))
    have b3 : fr = false := by cases fr with | false => rfl | true => exact absurd (.inr (.inr (.inl rfl))) hbad
    have b4 : ¬ (x.f0.length < 1 ∨ 256 < x.f0.length) := fun h => hbad (.inr (.inr (.inr (h.elim .inl (fun h => .inr (.inl h))))))
    have b6 : x.f1.f0 ≠ 0 := fun h => hbad (.inr (.inr (.inr (.inr (.inr (.inl h))))))
    have b7 : rightB x.f1 = true := by cases hr : rightB x.f1 with | true => rfl | false => exact absurd (.inr (.inr (.inr (.inr (.inr (.inr hr)))))) hbad
    subst b3
    obtain ⟨hn, rfl⟩ : ∃ hn : Nat, height = (hn : Int) := ⟨height.toNat, by omega⟩
    have hsb := sizeE_bound (es := ns.map (·.e)) (fun y hy => (hg.keys y hy).2)
    have hlen : ns.length ≤ 4096 := by have := hg.most; rwa [List.length_map] at this
    rw [List.length_map] at hsb
    refine (Put_ok W base ok g ns _ hL A c x hn hx hc (by omega) (by omega) (by omega) (by omega) b6 b7 ho.2.2.1 (fun m hm => okW_good (hg.good _ (List.mem_map.2 ⟨m, hm, rfl⟩))) hlen ⟨by omega, by omega⟩).mono ?_
    rintro e w' ⟨hsz, hfr, X, Y, hXY, hX, hY, hways⟩
    have hr : NdRise (X ++ Y) := by rw [← hXY]; exact hL.rise
    have herr : ∀ b, (ns.map (·.e)).any (fun y => decide (cmpI y.f0 x.f0 = 0)) = b → skErr (ns.map (·.e)) false x (hn : Int) = if b = true then 0 else if 4096 ≤ (ns.map (·.e)).length then 5 else 0 := fun b hb => by
      unfold skErr
      rw [if_neg (by omega), if_neg (by decide), if_neg (by omega), if_neg (by rintro (h | h); exact b6 h; rw [b7] at h; cases h), hb]
    rcases hways with ⟨n, Q, rfl, hn0, rfl, hL'⟩ | ⟨hgt, hw⟩
    · have hany : (ns.map (·.e)).any (fun y => decide (cmpI y.f0 x.f0 = 0)) = true := by
        rw [List.any_eq_true]
        exact ⟨n.e, List.mem_map.2 ⟨n, by rw [hXY]; simp, rfl⟩, decide_eq_true hn0⟩
      have he0 := herr true hany
      rw [if_pos rfl] at he0
      refine ⟨by rw [he0], ?_, hsz, hfr⟩
      unfold skNew
      rw [if_pos he0]
      rcases put_ways hX hY hr with ⟨n2, Q2, h1, h2, _, h4⟩ | ⟨h1, _⟩
      · injection h1 with h1 h1'
        subst h1; subst h1'
        have hkey : n.e.f0 = x.f0 := (cmpI_zero (hg.byt n.e (List.mem_map.2 ⟨n, by rw [hXY]; simp, rfl⟩)) hb).1 hn0
        rw [hXY, h4]
        refine ⟨X ++ { n with e := ⟨n.e.f0, mgA n.e.f1 x.f1⟩ } :: Q, ?_, ?_⟩
        · rw [List.map_append, List.map_cons, hkey]
        · have e : sizeE (X.map (·.e) ++ ⟨x.f0, mgA n.e.f1 x.f1⟩ :: Q.map (·.e)) = sizeE (ns.map (·.e)) := by
            rw [hXY, List.map_append, List.map_cons, sizeE_app, sizeE_app, sizeE_cons, sizeE_cons, hkey]
          rw [e]; exact hL'
      · have := h1 n (List.mem_cons_self ..); omega
    · have hany : (ns.map (·.e)).any (fun y => decide (cmpI y.f0 x.f0 = 0)) = false := by
        rcases put_ways hX hY hr with ⟨n2, Q2, rfl, h2, _⟩ | ⟨_, h2, _⟩
        · have := hgt n2 (List.mem_cons_self ..); omega
        · rw [hXY]; exact h2
      have hput : putL (ns.map (·.e)) x = X.map (·.e) ++ x :: Y.map (·.e) := by
        rcases put_ways hX hY hr with ⟨n2, Q2, rfl, h2, _⟩ | ⟨_, _, h2⟩
        · have := hgt n2 (List.mem_cons_self ..); omega
        · rw [hXY]; exact h2
      have he0 := herr false hany
      rw [if_neg (by decide), List.length_map] at he0
      rcases hw with ⟨hful, rfl, hL'⟩ | ⟨hful, rfl, n, hne, hnh, hL'⟩
      · rw [if_pos hful] at he0
        refine ⟨by rw [he0], ?_, hsz, hfr⟩
        unfold skNew
        rw [if_neg (by rw [he0]; decide)]
        exact ⟨X ++ Y, by rw [hXY], hL'⟩
      · rw [if_neg (by omega)] at he0
        refine ⟨by rw [he0], ?_, hsz, hfr⟩
        unfold skNew
        rw [if_pos he0, hput]
        refine ⟨X ++ n :: Y, by rw [List.map_append, List.map_cons, hne], ?_⟩
        have e : sizeE (X.map (·.e) ++ x :: Y.map (·.e)) = sizeE (ns.map (·.e)) + ((x.f0.length : Int) + 41) := by
          rw [hXY, List.map_append, sizeE_app, sizeE_app, sizeE_cons]; omega
        rw [e]; exact hL'
set_option maxHeartbeats 1000000 in
set_option maxRecDepth 100000 in
theorem Put_nil (W : World) (A : Option Addr) (c : Nat) (x : En) (height : Int) : Calls Try.prog 18 #[.pointer none, enV A c x, .int .i64 height] W fun e w' => e = .returned (.int .i64 6) ∧ Below W.heap.size W w' := by
  have hu4 := Try.underlying38
  go_enter Try.func18, Try.ntmps18
  go_wp2
  go_ret
  exact ⟨rfl, below_alloc (Below.refl _ _) _⟩
theorem SkS.empty {W : World} {base g : Nat} {ok : Nat → Prop} (h : W.heap[g]? = some (.cells (hdC [] 0 false).toArray 61 (0, 0))) (hb : base ≤ g) (ho : ok g) : SkS W base ok g [] false := ⟨[], rfl, ⟨h, hb, ho, trivial, List.Pairwise.nil, ⟨(fun m hm => by cases hm), List.Pairwise.nil⟩, (fun m hm => by cases hm)⟩⟩
set_option maxHeartbeats 1000000 in
set_option maxRecDepth 100000 in
theorem New_S (W : World) : Calls Try.prog 20 #[] W fun e w' => e = .returned (.pointer (some ⟨W.heap.size, 0, none⟩)) ∧ SkS w' W.heap.size (fun k => W.heap.size ≤ k) W.heap.size [] false ∧ Below W.heap.size W w' := by
  have hu := Try.underlying61
  go_enter Try.func20, Try.ntmps20
  go_wp2
  go_ret
  exact ⟨rfl, SkS.empty (blk_new W _) (Nat.le_refl _) (Nat.le_refl _), below_alloc (Below.refl _ _) _⟩
set_option maxHeartbeats 1000000 in
set_option maxRecDepth 100000 in
theorem Len_S {W : World} {base g : Nat} {ok : Nat → Prop} {es : List En} {fr : Bool} (hS : SkS W base ok g es fr) : Calls Try.prog 24 #[.pointer (some ⟨g, 0, none⟩)] W fun e w' => e = .returned (.int .i64 (es.length : Int)) ∧ Below W.heap.size W w' := by
  have hu := Try.underlying61
  obtain ⟨ns, rfl, hL⟩ := hS
  have h15 := hd15 hL.mid
  rw [List.length_map]
  clear hL
  go_enter Try.func24, Try.ntmps24
  go_wp2
  go_ret
  exact ⟨rfl, Below.refl _ _⟩
set_option maxHeartbeats 1000000 in
set_option maxRecDepth 100000 in
theorem Size_S {W : World} {base g : Nat} {ok : Nat → Prop} {es : List En} {fr : Bool} (hS : SkS W base ok g es fr) : Calls Try.prog 13 #[.pointer (some ⟨g, 0, none⟩)] W fun e w' => e = .returned (.int .i64 (sizeE es)) ∧ Below W.heap.size W w' := by
  have hu := Try.underlying61
  obtain ⟨ns, he, hL⟩ := hS
  have h16 := hd16 hL.mid
  clear hL he
  go_enter Try.func13, Try.ntmps13
  go_wp2
  go_ret
  exact ⟨rfl, Below.refl _ _⟩
set_option maxHeartbeats 1000000 in
set_option maxRecDepth 100000 in
theorem Frozen_S {W : World} {base g : Nat} {ok : Nat → Prop} {es : List En} {fr : Bool} (hS : SkS W base ok g es fr) : Calls Try.prog 19 #[.pointer (some ⟨g, 0, none⟩)] W fun e w' => e = .returned (.bool fr) ∧ Below W.heap.size W w' := by
  have hu := Try.underlying61
  obtain ⟨ns, he, hL⟩ := hS
  have h17 := hd17 hL.mid
  clear hL he
  go_enter Try.func19, Try.ntmps19
  go_wp2
  go_ret
  exact ⟨rfl, Below.refl _ _⟩
set_option maxHeartbeats 1000000 in
set_option maxRecDepth 100000 in
theorem Freeze_S {W : World} {base g : Nat} {ok : Nat → Prop} {es : List En} {fr : Bool} (hS : SkS W base ok g es fr) : Calls Try.prog 17 #[.pointer (some ⟨g, 0, none⟩)] W fun e w' => e = .returned (.int .i64 (if fr = true then 7 else 0)) ∧ SkS w' base ok g es true ∧ W.heap.size ≤ w'.heap.size ∧ SameIO W w' ∧ ∀ k, ¬ ok k → w'.heap[k]? = W.heap[k]? := by
  have hu := Try.underlying61
  obtain ⟨ns, he, hL⟩ := hS
  have h17 := hd17 hL.mid
  have f17 : W.frozen? ⟨g, 17, none⟩ = false := blk_frozen hL.head 17
  have HL := Aside0.mk hL
  have HE := Aside0.mk he
  clear hL he
  cases fr with
  | true =>
    rw [if_pos rfl]
    go_enter Try.func17, Try.ntmps17
    go_wp2
    go_ret
    exact ⟨rfl, ⟨ns, HE.out, HL.out⟩, Nat.le_refl _, ⟨rfl, rfl, rfl⟩, fun _ _ => rfl⟩
  | false =>
    rw [if_neg (by decide)]
    go_enter Try.func17, Try.ntmps17
    go_wp2
    go_ret
    exact ⟨rfl, ⟨ns, HE.out, (HL.out.mid.fr true).toL HL.out.tall⟩, by simp, SameIO.set _ _ _, fun k hk => set_other _ _ _ _ (fun e => hk (by rw [show k = g from e]; exact HL.out.headO))⟩
set_option maxHeartbeats 1000000 in
set_option maxRecDepth 100000 in
theorem Len_nil (W : World) : Calls Try.prog 24 #[.pointer none] W fun e w' => e = .returned (.int .i64 0) ∧ Below W.heap.size W w' := by
  go_enter Try.func24, Try.ntmps24
  go_wp2
  go_ret
  exact ⟨rfl, Below.refl _ _⟩
set_option maxHeartbeats 1000000 in
set_option maxRecDepth 100000 in
theorem Freeze_nil (W : World) : Calls Try.prog 17 #[.pointer none] W fun e w' => e = .returned (.int .i64 6) ∧ Below W.heap.size W w' := by
  go_enter Try.func17, Try.ntmps17
  go_wp2
  go_ret
  exact ⟨rfl, Below.refl _ _⟩
set_option maxHeartbeats 1000000 in
set_option maxRecDepth 100000 in
theorem Frozen_nil (W : World) : Calls Try.prog 19 #[.pointer none] W fun e w' => e = .returned (.bool false) ∧ Below W.heap.size W w' := by
  go_enter Try.func19, Try.ntmps19
  go_wp2
  go_ret
  exact ⟨rfl, Below.refl _ _⟩
end Go.Proofs.Yteomanpaladdjaa.P
