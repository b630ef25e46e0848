/- Seek: the first entries from a key on. No conditions. -/
import Derived.Test.YteomanpaladdjaaSkFrom
import Derived.Test.YteomanpaladdjaaRangeW
import Derived.RangeFuncNested
import Derived.RangeFuncBound
import Derived.RangeFuncCalls
import Derived.RangeFuncLeaves
import Derived.Shelf.Abstract
import Derived.WalkKit
import Derived.OwnWalkIn
import Derived.TacticsInMore
import Derived.LoopNIn
import Derived.LoopIn
import Derived.Sort.LoopGhostIn
import Derived.Stop.RegionWithIn
import Derived.Maps.AppendAt
namespace Go.Proofs.Yteomanpaladdjaa.P
open Go.RowKit Go.Proofs.Yteomanpaladdjaa.Pure Go.Proofs.YteomanpaladdjaaW.PrintWords Go.Proofs.YteomanpaladdjaaW.PrintLast Go.Proofs.YteomanpaladdjaaW.PrintMore
set_option linter.unusedVariables false
set_option linter.unusedSimpArgs false
attribute [local go_sem] Oper.semAt_some
section
variable {F : Fence} {n : Nat} {P : Program}
/-- One round, out of its body's walk; the assignment may make blocks. -/
theorem yieldAt_of_body2 {m fn : Nat} {tmps0 : Array Value} {ps : Array Tmp} {assign body : Code} {D : Nat} {rec : LoopState → Option Code → Loop}
    (hrec : rec = fun st pe => { state := st, pending := pe, fn := fn, tmps := tmps0, params := ps, assign, body, defers := D }) (hfn : F.fn fn)
    {args : Array Value} (hps : args.size = ps.size) {W : World} (hr : Rdy rec D W) {R1 : World → Prop} {R2 : Code → World → Prop}
    (h : ∃ (a₁ : Act) (Wa : World), (Wa.heap[D]? = W.heap[D]? ∧ Wa.heap[D + 1]? = W.heap[D + 1]?) ∧ (∀ K : Act → World → Prop, K a₁ Wa → assign.wpIn (F.inRound (D + 1)) m P (Exit.then K (fun _ _ _ => False)) { tmps := (ps.zip args).foldl (fun t (p, v) => t.setIfInBounds p v) tmps0, defers := [] } W) ∧
      ∀ W2, W2 = Wa.putObj (D + 1) (.loop { rec .ready none with state := .busy }) → body.wpIn (F.inRound (D + 1)) m P (bodyPostZ rec D W2 R1 R2) a₁ W2) :
    YieldAt F m P (D + 1) args W fun e W' => (e = .returned (.bool true) ∧ Rdy rec D W' ∧ R1 W') ∨ (e = .returned (.bool false) ∧ ∃ c, Dn rec D c W' ∧ R2 c W') := by
  obtain ⟨hl0, hk0⟩ := hr
  have hy := run_yield (P := P) (args := args) hl0 (by rw [hrec]; exact hps)
  rw [hrec] at hy
  obtain ⟨a₁, Wa, ⟨ea0, ea1⟩, hass, hb⟩ := h
  have hl := ea1.trans hl0
  have hk := ea0.trans hk0
  have hlt : D + 1 < Wa.heap.size := (Array.getElem?_eq_some_iff.1 hl).1
  refine ⟨fn, _, assign, body, hy, roundIn_of_wpIn hfn (hass _ ⟨_, run_beginRound hl (by rw [hrec]), wpIn_mono (hb _ rfl) ?_⟩)⟩
  have hl2 : (Wa.putObj (D + 1) (.loop { rec .ready none with state := .busy })).heap[D + 1]? = some (.loop { rec .ready none with state := .busy }) := World.putObj_heap_same hlt
  have hk2 : (Wa.putObj (D + 1) (.loop { rec .ready none with state := .busy })).heap[D]? = some (.deferred (some [])) := (World.putObj_heap_other (by omega)).trans hk
  have fin : ∀ (jump : Option Code) (W3 : World), W3.heap[D]? = (Wa.putObj (D + 1) (.loop { rec .ready none with state := .busy })).heap[D]? → W3.heap[D + 1]? = (Wa.putObj (D + 1) (.loop { rec .ready none with state := .busy })).heap[D + 1]? →
      (Instr.endRound (D + 1) jump).run P W3 = .ok (.bool jump.isNone) (W3.putObj (D + 1) (.loop (rec (if jump.isNone then .ready else .done) jump))) ∧
      (W3.putObj (D + 1) (.loop (rec (if jump.isNone then .ready else .done) jump))).heap[D + 1]? = some (.loop (rec (if jump.isNone then .ready else .done) jump)) ∧
      (W3.putObj (D + 1) (.loop (rec (if jump.isNone then .ready else .done) jump))).heap[D]? = some (.deferred (some [])) := fun jump W3 e0 e1 => by
    have hl3 := e1.trans hl2
    have := run_endRound (P := P) jump hl3
    rw [hrec] at this ⊢
    exact ⟨this, World.putObj_heap_same (Array.getElem?_eq_some_iff.1 hl3).1, (World.putObj_heap_other (by omega)).trans (e0.trans hk2)⟩
  intro e2 a3 W3 hp
  cases e2 with
  | normal =>
    obtain ⟨⟨e0, e1⟩, hR⟩ := hp
    obtain ⟨hr3, hl4, hk4⟩ := fin none W3 e0 e1
    exact ⟨_, _, hr3, .inl ⟨rfl, ⟨hl4, hk4⟩, hR⟩⟩
  | ret =>
    obtain ⟨⟨e0, e1⟩, hR⟩ := hp
    obtain ⟨hr3, hl4, hk4⟩ := fin (some .ret) W3 e0 e1
    exact ⟨_, _, hr3, .inr ⟨rfl, .ret, ⟨hl4, hk4⟩, hR⟩⟩
  | exit id =>
    obtain ⟨⟨e0, e1⟩, hR⟩ := hp
    obtain ⟨hr3, hl4, hk4⟩ := fin (some (.exit id)) W3 e0 e1
    exact ⟨_, _, hr3, .inr ⟨rfl, .exit id, ⟨hl4, hk4⟩, hR⟩⟩
  | goto t =>
    obtain ⟨⟨e0, e1⟩, hR⟩ := hp
    obtain ⟨hr3, hl4, hk4⟩ := fin (some (.goto t)) W3 e0 e1
    exact ⟨_, _, hr3, .inr ⟨rfl, .goto t, ⟨hl4, hk4⟩, hR⟩⟩
  | panic ch => exact hp.elim
  | outgrown => exact hp.elim
end

theorem from_calls (g : Nat) (A0 : Option Addr) (n c0 : Nat) (w : World) :
    Calls Try.prog 26 #[.pointer (some ⟨g, 0, none⟩), .slice A0 n c0] w fun e w' => e = .returned (.func (.func 38) #[] #[.pointer (some ⟨w.heap.size, 0, none⟩), .pointer (some ⟨w.heap.size + 1, 0, none⟩)]) ∧ w' = (w.alloc (.cells #[.pointer (some ⟨g, 0, none⟩)] 25)).alloc (.cells #[.slice A0 n c0] 23) := by
  go_enter Try.func26, Try.ntmps26
  go_wp2
  go_ret
  exact ⟨rfl, rfl⟩
/-- What stands between two rounds. -/
def SkI (w : World) (g : Nat) (A0 : Option Addr) (n c0 m : Nat) (out : List En) (W : World) : Prop :=
  (∃ v, Boxed W (w.heap.size + 1) 22 v ∧ Kd.S k38 38 W w.heap.size (fun _ => True) v out) ∧ Boxed W w.heap.size 3 (.int .i64 (m : Int)) ∧ Boxed W (w.heap.size + 2) 25 (.pointer (some ⟨g, 0, none⟩)) ∧ Boxed W (w.heap.size + 3) 23 (.slice A0 n c0) ∧ Below w.heap.size w W
theorem skI_below {w A B : World} {g n c0 m : Nat} {A0 : Option Addr} {out : List En} (h : SkI w g A0 n c0 m out A) (hb : Below A.heap.size A B) : SkI w g A0 n c0 m out B := by
  obtain ⟨⟨v, h1, h2⟩, h3, h4, h5, h6⟩ := h
  exact ⟨⟨v, boxed_below h1 hb, Kd.S_below h2 hb⟩, boxed_below h3 hb, boxed_below h4 hb, boxed_below h5 hb, h6.trans (hb.mono h6.size)⟩
theorem sk_round {w W2 w1 : World} {g n c0 m : Nat} {A0 : Option Addr} {out : List En} {p : En} {u v1 : Value} {o1 o2 : Obj} {base : Nat} {ok : Nat → Prop}
    (Q2 : Kd.S k38 38 W2 base ok u out)
    (Q7 : W2.heap[w.heap.size + 4 + 1]? = some o1) (h7 : o1.isCells = false) (Q8 : W2.heap[w.heap.size + 4]? = some o2) (h8 : o2.isCells = false)
    (K1 : Boxed w1 (w.heap.size + 1) 22 u) (K3 : Boxed w1 w.heap.size 3 (.int .i64 (m : Int))) (K4 : Boxed w1 (w.heap.size + 2) 25 (.pointer (some ⟨g, 0, none⟩))) (K5 : Boxed w1 (w.heap.size + 3) 23 (.slice A0 n c0))
    (R1 : Kd.S k38 38 w1 w.heap.size (fun _ => True) v1 (out ++ [p])) (R2 : Below w.heap.size w w1) (R3 : W2.grownBy w1 u.ownBlock) :
    ((((w1.setCell ⟨w.heap.size + 1, 0, none⟩ v1).heap[w.heap.size + 4]? = W2.heap[w.heap.size + 4]?) ∧ ((w1.setCell ⟨w.heap.size + 1, 0, none⟩ v1).heap[w.heap.size + 4 + 1]? = W2.heap[w.heap.size + 4 + 1]?)) ∧
    ∀ o3, SkI w g A0 n c0 m (out ++ [p]) ((w1.setCell ⟨w.heap.size + 1, 0, none⟩ v1).putObj (w.heap.size + 4 + 1) o3)) := by
  have z0 : (w1.setCell ⟨w.heap.size + 1, 0, none⟩ v1).heap[w.heap.size + 4]? = W2.heap[w.heap.size + 4]? :=
    (Below.heap_setCell _ _ _ _ (by simp)).trans (R3.block _ (Array.getElem?_eq_some_iff.1 Q8).1 (S_row_ne Q2 Q8 h8))
  have z1 : (w1.setCell ⟨w.heap.size + 1, 0, none⟩ v1).heap[w.heap.size + 4 + 1]? = W2.heap[w.heap.size + 4 + 1]? :=
    (Below.heap_setCell _ _ _ _ (by simp; try omega)).trans (R3.block _ (Array.getElem?_eq_some_iff.1 Q7).1 (S_row_ne Q2 Q7 h7))
  have y1 := z1.trans Q7
  refine ⟨⟨z0, z1⟩, fun o3 => ⟨⟨_, boxed_putObj (K1.set _) y1 h7 _, S_putObj (Kd.S_set R1 K1 (by decide) _ _) y1 h7 _⟩, boxed_putObj (boxed_far K3 (by simp) _) y1 h7 _, boxed_putObj (boxed_far K4 (by simp) _) y1 h7 _, boxed_putObj (boxed_far K5 (by simp) _) y1 h7 _, ?_⟩⟩
  exact below_putObj (R2.setCell (p := ⟨w.heap.size + 1, 0, none⟩) (by simp) _) (by omega) (Array.getElem?_eq_some_iff.1 y1).1 _
def seekE (es : List En) (key : List Int) (most : Int) : List En := if most < 1 then [] else (fromE key es).take most.toNat
theorem infoE : (Try.prog.info? 38).map (fun i => (i.zero, i.size, i.bytes)) = some (some (.agg #[.slice none 0 0, .int .u64 0, .bool false, .int .i64 0, .int .u64 0, .int .i64 0, .int .i64 0]), 7, 72) := by kernel_rfl
set_option maxHeartbeats 4000000 in
set_option maxRecDepth 100000 in
theorem Seek_none (W : World) (A0 : Option Addr) (n c0 : Nat) (most : Int) : Calls Try.prog 14 #[.pointer none, .slice A0 n c0, .int .i64 most] W fun e w' => e = .returned (.slice none 0 0) ∧ Below W.heap.size W w' := by
  go_enter Try.func14, Try.ntmps14
  go_wp2
  go_ret
  exact ⟨rfl, below_alloc (Below.refl _ _) _⟩
set_option maxHeartbeats 4000000 in
set_option maxRecDepth 100000 in
theorem Seek_few (W : World) (g : Nat) (A0 : Option Addr) (n c0 : Nat) (most : Int) (h : most < 1) : Calls Try.prog 14 #[.pointer (some ⟨g, 0, none⟩), .slice A0 n c0, .int .i64 most] W fun e w' => e = .returned (.slice none 0 0) ∧ Below W.heap.size W w' := by
  have d1 : decide (most < 1) = true := decide_eq_true h
  clear h
  go_enter Try.func14, Try.ntmps14
  go_wp2
  go_ret
  exact ⟨rfl, below_alloc (Below.refl _ _) _⟩
set_option maxHeartbeats 4000000 in
set_option maxRecDepth 100000 in
theorem Seek_walk {w : World} {base g : Nat} {ok : Nat → Prop} {es : List En} {fr : Bool} (hS : SkS w base ok g es fr) (A0 : Option Addr) (c0 : Nat) (key : List Int) (hk : Kd.C (Kd.int .u8) w A0 key.length key) (hc0 : key.length ≤ c0) (m : Nat) (hm : 0 < m) (hkl : ∀ y ∈ es, y.f0.length < 140737488355328) (hlen : es.length ≤ 4096) :
    Calls Try.prog 14 #[.pointer (some ⟨g, 0, none⟩), .slice A0 key.length c0, .int .i64 (m : Int)] w fun e w' => ∃ v, e = .returned v ∧ Kd.S k38 38 w' w.heap.size (fun _ => True) v ((fromE key es).take m) ∧ Below w.heap.size w w' := by
  obtain ⟨ns, rfl, hL⟩ := hS
  have d1 : decide ((m : Int) < 1) = false := decide_eq_false (by omega)
  have d1b : decide (m < 1) = false := decide_eq_false (by omega)
  have HL := Aside0.mk hL
  have HK := Aside0.mk hk
  have HC0 := Aside0.mk hc0
  have HM := Aside0.mk hm
  have HKL := Aside0.mk (show ∀ k ∈ ns, k.e.f0.length < 140737488355328 from fun k hk => hkl k.e (List.mem_map.2 ⟨k, hk, rfl⟩))
  have HLN := Aside0.mk (show ns.length ≤ 4096 by rwa [List.length_map] at hlen)
  clear hL hk hc0 hm hkl hlen
  obtain ⟨FE, hFE⟩ : ∃ l, fromE key (ns.map (·.e)) = l := ⟨_, rfl⟩
  have HFE := Aside0.mk hFE
  rw [hFE]
  obtain ⟨FT, hFT⟩ : ∃ l, FE.take m = l := ⟨_, rfl⟩
  have HFT := Aside0.mk hFT
  rw [hFT]
  clear hFE hFT
  refine (callsIn_wide (n := 8)).1 ?_
  refine callsIn_of_wp_marks Try.func14 rfl trivial ?_ rfl
  simp only [Try.ntmps14, List.size_toArray, List.length_cons, List.length_nil, Nat.reduceAdd, Nat.reduceSub, Array.replicate_succ, Array.replicate_zero, List.push_toArray, List.append_toArray, List.nil_append, List.cons_append]
  gi_wp2_with (first | (refine ⟨trivial, ?_⟩; gi_at_call 26; refine (callsIn_wide.2 (from_calls g A0 key.length c0 _)).mono ?_; rintro e w' ⟨rfl, rfl⟩))
  obtain ⟨W0, hW0⟩ : ∃ W0, (((w.alloc (.cells #[.int .i64 (m : Int)] 3)).alloc (.cells #[.slice none 0 0] 22)).alloc (.cells #[.pointer (some ⟨g, 0, none⟩)] 25)).alloc (.cells #[.slice A0 key.length c0] 23) = W0 := ⟨_, rfl⟩
  have hsz : W0.heap.size = w.heap.size + 4 := by rw [← hW0]; simp
  have hI0 : SkI w g A0 key.length c0 m [] W0 := by
    rw [← hW0]
    refine ⟨⟨.slice none 0 0, ?_, Kd.S_nil _ _ _ _ _⟩, ((((Boxed.new w _ _).alloc _).alloc _).alloc _), ?_, ?_, (((((Below.refl _ w).alloc (Nat.le_refl _) _).alloc (by simp) _).alloc (by simp; omega) _).alloc (by simp; omega) _)⟩
    · have := Boxed.new (w.alloc (.cells #[.int .i64 (m : Int)] 3)) 22 (.slice none 0 0)
      rw [World.size_alloc] at this
      exact (this.alloc _).alloc _
    · have := Boxed.new ((w.alloc (.cells #[.int .i64 (m : Int)] 3)).alloc (.cells #[.slice none 0 0] 22)) 25 (.pointer (some ⟨g, 0, none⟩))
      rw [World.size_alloc, World.size_alloc] at this
      exact this.alloc _
    · have := Boxed.new (((w.alloc (.cells #[.int .i64 (m : Int)] 3)).alloc (.cells #[.slice none 0 0] 22)).alloc (.cells #[.pointer (some ⟨g, 0, none⟩)] 25)) 23 (.slice A0 key.length c0)
      rw [World.size_alloc, World.size_alloc, World.size_alloc] at this
      exact this
  rw [hW0]
  have HI0 := Aside0.mk hI0
  clear hI0
  refine wpIn_rangeFunc_Z rfl (by omega) (gf := 38) (lb := #[.pointer (some ⟨w.heap.size + 1 + 1, 0, none⟩), .pointer (some ⟨w.heap.size + 1 + 1 + 1, 0, none⟩)]) rfl trivial (enters_of Try.func38 (by kernel_rfl) rfl)
    (N := fun W => FE.length < m ∧ SkI w g A0 key.length c0 m FT W) (X := fun c W => m ≤ FE.length ∧ c = .exit 0 ∧ SkI w g A0 key.length c0 m FT W) ?call ?done ?stop
  case stop =>
    intro W o c hlt hnc hX hD
    rw [hsz] at hlt hnc hD ⊢
    obtain ⟨o0, ho0, hoc⟩ := hnc
    obtain ⟨hh, rfl, ⟨v, h1, h2⟩, h3, h4, h5, h6⟩ := hX
    obtain ⟨A1, c1, rfl⟩ := Kd.S_slice h2
    have b1 := boxed_putObj h1 ho0 hoc o
    have b4 := S_putObj h2 ho0 hoc o
    have b5 := below_putObj (n₀ := w.heap.size) h6 (by omega) hlt o
    generalize W.putObj (w.heap.size + 4 + 1) o = WX at b1 b4 b5 hD ⊢
    have c1_ := b1.cell
    have B4 := Aside0.mk b4
    have B5 := Aside0.mk b5
    have HD := Aside0.mk hD
    clear b1 b4 b5 h1 h2 h3 h4 h5 h6 ho0 hoc hlt hW0 hsz HI0 hD hh
    gi_wp2
    refine ⟨by simp, .inl ⟨_, _, rfl, run_takeDeferred HD.out, ?_⟩⟩
    refine ⟨_, results_tmp rfl _ _ _, _, rfl, ?_, ?_⟩
    · exact S_putObj B4.out HD.out rfl _
    · exact below_putObj B5.out (by omega) (Array.getElem?_eq_some_iff.1 HD.out).1 _
  case done =>
    intro W o hlt hnc hI hD
    rw [hsz] at hlt hnc hD ⊢
    obtain ⟨o0, ho0, hoc⟩ := hnc
    obtain ⟨hh, ⟨v, h1, h2⟩, h3, h4, h5, h6⟩ := hI
    obtain ⟨A1, c1, rfl⟩ := Kd.S_slice h2
    have b1 := boxed_putObj h1 ho0 hoc o
    have b4 := S_putObj h2 ho0 hoc o
    have b5 := below_putObj (n₀ := w.heap.size) h6 (by omega) hlt o
    generalize W.putObj (w.heap.size + 4 + 1) o = WX at b1 b4 b5 hD ⊢
    have c1_ := b1.cell
    have B4 := Aside0.mk b4
    have B5 := Aside0.mk b5
    have HD := Aside0.mk hD
    clear b1 b4 b5 h1 h2 h3 h4 h5 h6 ho0 hoc hlt hW0 hsz HI0 hD hh
    gi_wp2
    refine ⟨by simp, .inl ⟨_, _, rfl, run_takeDeferred HD.out, ?_⟩⟩
    refine ⟨_, results_tmp rfl _ _ _, _, rfl, ?_, ?_⟩
    · exact S_putObj B4.out HD.out rfl _
    · exact below_putObj B5.out (by omega) (Array.getElem?_eq_some_iff.1 HD.out).1 _
  case call =>
    intro fn rec hfn hrec W1 hW1 hR
    rw [hsz] at hrec hR ⊢
    have hb1 : Below W0.heap.size W0 W1 := by rw [hW1]; exact ((Below.refl _ W0).alloc (Nat.le_refl _) _).alloc (by simp) _
    refine (from1_in (8 - 1) (by omega) (w.heap.size + 4 + 1) (w.heap.size + 2) (w.heap.size + 3) base g ok ns (sizeE (ns.map (·.e))) fr A0 c0 key HC0.out m HM.out HKL.out (fun out W => SkI w g A0 key.length c0 m out W ∧ Rdy rec (w.heap.size + 4) W ∧ out.length ≤ ns.length)
      (fun out W => ∃ c, Dn rec (w.heap.size + 4) c W ∧ c = .exit 0 ∧ SkI w g A0 key.length c0 m out W)
      (fun out A B h hb => ⟨skI_below h.1 hb, h.2.1.below hb, h.2.2⟩) (fun out W h => HL.out.below h.1.2.2.2.2) (fun out W h => Kd.C_below HK.out h.1.2.2.2.2) (fun out W h => ⟨h.1.2.2.1, h.1.2.2.2.1⟩) ?hY W1 ⟨skI_below HI0.out hb1, hR, by simp⟩).mono ?_
    case hY =>
      intro out B c x Wa Wb hI hb hR0 hlt
      have hRb := hI.2.1.below hb
      obtain ⟨vv0, hvv0⟩ : ∃ v : Value, v = .slice B x.f0.length c := ⟨_, rfl⟩
      obtain ⟨vv1, hvv1⟩ : ∃ v : Value, v = .int .u64 x.f1.f0 := ⟨_, rfl⟩
      obtain ⟨vv2, hvv2⟩ : ∃ v : Value, v = .bool x.f1.f1 := ⟨_, rfl⟩
      obtain ⟨vv3, hvv3⟩ : ∃ v : Value, v = .int .i64 x.f1.f2.f0 := ⟨_, rfl⟩
      obtain ⟨vv4, hvv4⟩ : ∃ v : Value, v = .int .u64 x.f1.f2.f1 := ⟨_, rfl⟩
      obtain ⟨vv5, hvv5⟩ : ∃ v : Value, v = .int .i64 x.f1.f3 := ⟨_, rfl⟩
      obtain ⟨vv6, hvv6⟩ : ∃ v : Value, v = .int .i64 x.f1.f4 := ⟨_, rfl⟩
      refine YieldAt.mono (yieldAt_of_body2 hrec hfn rfl hRb (R1 := fun W' => out.length + 1 ≠ m ∧ SkI w g A0 key.length c0 m (out ++ [x]) W') (R2 := fun c W' => out.length + 1 = m ∧ c = .exit 0 ∧ SkI w g A0 key.length c0 m (out ++ [x]) W') ?_) ?_
      · apply Exists.intro
        refine ⟨Wb.alloc (.cells #[vv0, vv1, vv2, vv3, vv4, vv5, vv6] 38), ⟨Below.heap_alloc _ _ _ (by have := hRb.lt; omega), Below.heap_alloc _ _ _ hRb.lt⟩, ?_, ?_⟩
        · intro K hK
          rw [hvv0, hvv1, hvv2, hvv3, hvv4, hvv5, hvv6] at hK
          have hu := Try.underlying38
          have hu2 := Try.underlying36
          gi_wp2
          exact hK
        intro W2 hW2
        obtain ⟨hl1, hl2⟩ := hRb
        obtain ⟨⟨u, g1, g2⟩, g3, g4, g5, g6⟩ := hI.1
        have hl1c := blk_alloc hl1 (.cells #[vv0, vv1, vv2, vv3, vv4, vv5, vv6] 38)
        have hl2c := blk_alloc hl2 (.cells #[vv0, vv1, vv2, vv3, vv4, vv5, vv6] 38)
        have hbc := below_alloc hb (.cells #[vv0, vv1, vv2, vv3, vv4, vv5, vv6] 38)
        have q1 := boxed_putObj (boxed_below g1 hbc) hl1c rfl (.loop { rec .ready none with state := .busy })
        have q3 := boxed_putObj (boxed_below g3 hbc) hl1c rfl (.loop { rec .ready none with state := .busy })
        have q4 := boxed_putObj (boxed_below g4 hbc) hl1c rfl (.loop { rec .ready none with state := .busy })
        have q5 := boxed_putObj (boxed_below g5 hbc) hl1c rfl (.loop { rec .ready none with state := .busy })
        have q2 := S_putObj (Kd.S_old g2 hbc) hl1c rfl (.loop { rec .ready none with state := .busy })
        have q6 := below_putObj (n₀ := w.heap.size) (g6.trans (hbc.mono g6.size)) (by omega) (Array.getElem?_eq_some_iff.1 hl1c).1 (.loop { rec .ready none with state := .busy })
        have q7 : W2.heap[w.heap.size + 4 + 1]? = some (.loop { rec .ready none with state := .busy }) := by rw [hW2]; exact World.putObj_heap_same (Array.getElem?_eq_some_iff.1 hl1c).1
        have q8 : W2.heap[w.heap.size + 4]? = some (.deferred (some [])) := by rw [hW2]; exact (World.putObj_heap_other (by omega)).trans hl2c
        have q0 := Kd.S_lt g2
        have qp : W2.heap[Wb.heap.size]? = some (.cells #[vv0, vv1, vv2, vv3, vv4, vv5, vv6] 38 (0, 0)) := by rw [hW2]; exact (World.putObj_heap_other (not_cells_ne hl1c rfl (heap_alloc_new Wb _))).trans (heap_alloc_new Wb _)
        have qr := R_putObj (Kd.R_lower (Kd.R_mono (ok' := fun k => Wa.heap.size ≤ k) (Kd.R_bound (Kd.R_alloc hR0 (.cells #[vv0, vv1, vv2, vv3, vv4, vv5, vv6] 38))) (fun k hk => hk.2.1)) g6.size) hl1c rfl (.loop { rec .ready none with state := .busy })
        rw [← hW2] at q1 q2 q3 q4 q5 q6 qr
        subst hvv0 hvv1 hvv2 hvv3 hvv4 hvv5 hvv6
        have qm : k38.M W2 w.heap.size (fun k => Wa.heap.size ≤ k) x [_, _, _, _, _, _, _] := k38_mkM W2 w.heap.size (fun k => Wa.heap.size ≤ k) x qr
        have qlt : ∀ k, u.ownBlock = some k → k < Wa.heap.size := q0
        clear g1 g2 g3 g4 g5 g6 hl1 hl2 hl1c hl2c hbc hI hb hR0 hW2 qr q0
        obtain ⟨A2, c2, rfl⟩ := Kd.S_slice q2
        obtain ⟨on, hon⟩ : ∃ k, out.length = k := ⟨_, rfl⟩
        rw [hon] at q1 q2 qlt
        have e1_ := q1.cell
        have f1_ := q1.frozen
        have p0_ : W2.cell? ⟨Wb.heap.size, 0, none⟩ = some (.slice B x.f0.length c) := (blk_cell qp 0).trans rfl
        have p1_ : W2.cell? ⟨Wb.heap.size, 1, none⟩ = some (.int .u64 x.f1.f0) := (blk_cell qp 1).trans rfl
        have p2_ : W2.cell? ⟨Wb.heap.size, 2, none⟩ = some (.bool x.f1.f1) := (blk_cell qp 2).trans rfl
        have p3_ : W2.cell? ⟨Wb.heap.size, 3, none⟩ = some (.int .i64 x.f1.f2.f0) := (blk_cell qp 3).trans rfl
        have p4_ : W2.cell? ⟨Wb.heap.size, 4, none⟩ = some (.int .u64 x.f1.f2.f1) := (blk_cell qp 4).trans rfl
        have p5_ : W2.cell? ⟨Wb.heap.size, 5, none⟩ = some (.int .i64 x.f1.f3) := (blk_cell qp 5).trans rfl
        have p6_ : W2.cell? ⟨Wb.heap.size, 6, none⟩ = some (.int .i64 x.f1.f4) := (blk_cell qp 6).trans rfl
        have hu := Try.underlying38
        have hu2 := Try.underlying36
        have Q1 := Aside0.mk q1
        have Q2 := Aside0.mk q2
        have Q3 := Aside0.mk q3
        have Q4 := Aside0.mk q4
        have Q5 := Aside0.mk q5
        have Q6 := Aside0.mk q6
        have Q7 := Aside0.mk q7
        have Q8 := Aside0.mk q8
        have Q0 := Aside0.mk qlt
        have QM := Aside0.mk qm
        have HLT := Aside0.mk (show out.length ≤ 4096 by have := HLN.out; omega)
        obtain ⟨n4, hn4⟩ : ∃ k, (out ++ [x]).length = k := ⟨_, rfl⟩
        have HN4 := Aside0.mk (show (out ++ [x]).length = n4 ∧ n4 = out.length + 1 from ⟨hn4, by rw [← hn4, List.length_append]; rfl⟩)
        have hnm : ((n4 : Int) == (m : Int)) = decide (n4 = m) := by
          by_cases h : n4 = m
          · rw [decide_eq_true h, h]; simp
          · rw [decide_eq_false h]; rw [beq_eq_false_iff_ne]; omega
        have hnm2 : decide ((n4 : Int) = (m : Int)) = decide (n4 = m) := by
          by_cases h : n4 = m
          · rw [decide_eq_true h, h]; simp
          · rw [decide_eq_false h]; exact decide_eq_false (by omega)
        clear q1 q2 q3 q4 q5 q6 q7 q8 qlt qm qp hlt hon hn4
        by_cases hcm : n4 = m
        · rw [decide_eq_true hcm] at hnm hnm2
          have HCM := Aside0.mk hcm
          clear hcm
          gi_wp2_with (first | (gi_at_builtin; refine S_append_in k38 (w0 := w) (W := W2) w.heap.size rfl (.tmp 19) (.tmp 21) 22 38 (.agg #[.slice none 0 0, .int .u64 0, .bool false, .int .i64 0, .int .u64 0, .int .i64 0, .int .i64 0]) 72 rfl Try.underlying22 infoE rfl (by decide) (by omega) _ out x _ (fun _ => True) (fun k => Wa.heap.size ≤ k) rfl rfl ?hp ?hokp (fun _ _ => trivial) ?HO ?HB ?hbase ?hl ?_; (case hp => exact QM.out); (case hokp => exact fun k hk => ⟨trivial, fun e => by have := Q0.out k e.symm; omega⟩); (case HO => exact Kd.S_mono Q2.out (fun k hk => ⟨trivial, by omega⟩)); (case HB => exact Q6.out); (case hbase => exact Q6.out.size); (case hl => have := HLT.out; omega); intro v1 w1 r1 r2 r3 r4; obtain ⟨A4, c4, hv1⟩ := Kd.S_slice r1; rw [HN4.out.1] at hv1; subst hv1; have k1 : Boxed w1 (w.heap.size + 1) 22 _ := Q1.out.kept r3 (Kd.S_ne Q2.out Q1.out (by decide)); have k3 : Boxed w1 w.heap.size 3 _ := Q3.out.kept r3 (Kd.S_ne Q2.out Q3.out (by decide)); have k4 : Boxed w1 (w.heap.size + 2) 25 _ := Q4.out.kept r3 (Kd.S_ne Q2.out Q4.out (by decide)); have k5 : Boxed w1 (w.heap.size + 3) 23 _ := Q5.out.kept r3 (Kd.S_ne Q2.out Q5.out (by decide)); have e4 := k1.cell; have f4 := k1.frozen; have e5 := k3.cell; have K1 := Aside0.mk k1; have K3 := Aside0.mk k3; have K4 := Aside0.mk k4; have K5 := Aside0.mk k5; have R1 := Aside0.mk r1; have R2 := Aside0.mk r2; have R3 := Aside0.mk r3; clear k1 k3 k4 k5 r1 r2 r3 r4))
          have hr := sk_round (g := g) (n := key.length) (c0 := c0) (m := m) (A0 := A0) (p := x) Q2.out Q7.out rfl Q8.out rfl K1.out K3.out K4.out K5.out (by have h_ := R1.out; exact h_) R2.out R3.out
          exact ⟨hr.1, by have h_ := HN4.out.2; have h2_ := HCM.out; omega, rfl, hr.2 _⟩
        · rw [decide_eq_false hcm] at hnm hnm2
          have HCM := Aside0.mk hcm
          clear hcm
          gi_wp2_with (first | (gi_at_builtin; refine S_append_in k38 (w0 := w) (W := W2) w.heap.size rfl (.tmp 19) (.tmp 21) 22 38 (.agg #[.slice none 0 0, .int .u64 0, .bool false, .int .i64 0, .int .u64 0, .int .i64 0, .int .i64 0]) 72 rfl Try.underlying22 infoE rfl (by decide) (by omega) _ out x _ (fun _ => True) (fun k => Wa.heap.size ≤ k) rfl rfl ?hp ?hokp (fun _ _ => trivial) ?HO ?HB ?hbase ?hl ?_; (case hp => exact QM.out); (case hokp => exact fun k hk => ⟨trivial, fun e => by have := Q0.out k e.symm; omega⟩); (case HO => exact Kd.S_mono Q2.out (fun k hk => ⟨trivial, by omega⟩)); (case HB => exact Q6.out); (case hbase => exact Q6.out.size); (case hl => have := HLT.out; omega); intro v1 w1 r1 r2 r3 r4; obtain ⟨A4, c4, hv1⟩ := Kd.S_slice r1; rw [HN4.out.1] at hv1; subst hv1; have k1 : Boxed w1 (w.heap.size + 1) 22 _ := Q1.out.kept r3 (Kd.S_ne Q2.out Q1.out (by decide)); have k3 : Boxed w1 w.heap.size 3 _ := Q3.out.kept r3 (Kd.S_ne Q2.out Q3.out (by decide)); have k4 : Boxed w1 (w.heap.size + 2) 25 _ := Q4.out.kept r3 (Kd.S_ne Q2.out Q4.out (by decide)); have k5 : Boxed w1 (w.heap.size + 3) 23 _ := Q5.out.kept r3 (Kd.S_ne Q2.out Q5.out (by decide)); have e4 := k1.cell; have f4 := k1.frozen; have e5 := k3.cell; have K1 := Aside0.mk k1; have K3 := Aside0.mk k3; have K4 := Aside0.mk k4; have K5 := Aside0.mk k5; have R1 := Aside0.mk r1; have R2 := Aside0.mk r2; have R3 := Aside0.mk r3; clear k1 k3 k4 k5 r1 r2 r3 r4))
          have hr := sk_round (g := g) (n := key.length) (c0 := c0) (m := m) (A0 := A0) (p := x) Q2.out Q7.out rfl Q8.out rfl K1.out K3.out K4.out K5.out (by have h_ := R1.out; exact h_) R2.out R3.out
          exact ⟨hr.1, by have h_ := HN4.out.2; have h2_ := HCM.out; omega, hr.2 _⟩
      · rintro e W' (⟨he, hr, hi⟩ | ⟨he, c, hd, hx⟩)
        · rw [decide_eq_false hi.1]
          exact ⟨he, fun h => absurd h hi.1, fun _ => ⟨hi.2, hr, by rw [List.length_append, List.length_singleton]; omega⟩⟩
        · rw [decide_eq_true hx.1]
          exact ⟨he, fun _ => ⟨c, hd, hx.2.1, hx.2.2⟩, fun h => absurd hx.1 h⟩
    rintro e W' ⟨hv, hx⟩
    refine ⟨hv, ?_⟩
    rw [HFE.out] at hx
    rcases hx with ⟨h2, c, hd, hc, hx⟩ | ⟨h2, hj, hr, _⟩
    · exact .inr ⟨c, hd, h2, hc, by rw [← HFT.out]; exact hx⟩
    · exact .inl ⟨hr, h2, by rw [← HFT.out, List.take_of_length_le (Nat.le_of_lt h2)]; exact hj⟩
end Go.Proofs.Yteomanpaladdjaa.P
