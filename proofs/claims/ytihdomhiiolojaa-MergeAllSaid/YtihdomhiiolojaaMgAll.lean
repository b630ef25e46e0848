/- merge.All: rows put together, or what is wrong. No conditions. -/
import Derived.Test.YtihdomhiiolojaaPx0
import Derived.Test.YtihdomhiiolojaaMgRun
namespace Go.Proofs.Ytihdomhiiolojaa.P
open Go.RowKit Go.Proofs.YtihdomhiiolojaaW.PrintWords Go.Proofs.YtihdomhiiolojaaW.PrintLast Go.Proofs.YtihdomhiiolojaaW.PrintMore
attribute [local go_sem] max2_int min2_int max_two min_two max_three min_three max_four min_four   -- for this text's walks alone
set_option linter.unusedVariables false
set_option linter.unusedSimpArgs false

/-! ### bytes_Equal: function 24 -/
def bytes_Equal.f (l0 : List Int) (l1 : List Int) : Option (Bool) := some ((strOfNums l0).toList == (strOfNums l1).toList)
set_option maxHeartbeats 8000000 in
set_option maxRecDepth 100000 in
theorem bytes_Equal.calls (A0 : Option Addr) (c0 : Nat) (l0 : List Int) (A1 : Option Addr) (c1 : Nat) (l1 : List Int) (r : Bool) (w : World) (hr0 : Kd.C (Kd.int .u8) w A0 l0.length l0) (hc0 : l0.length ≤ c0) (hr1 : Kd.C (Kd.int .u8) w A1 l1.length l1) (hc1 : l1.length ≤ c1) (h : bytes_Equal.f l0 l1 = some r) :
    Calls Try.prog 24 #[.slice A0 l0.length c0, .slice A1 l1.length c1] w fun e w' => e = .returned (.bool r) ∧ Drawn0 w w' := by
  have HR0 := Aside0.mk hr0
  have HC0 := Aside0.mk hc0
  clear hr0 hc0
  have HR1 := Aside0.mk hr1
  have HC1 := Aside0.mk hc1
  clear hr1 hc1
  have H : (some ((strOfNums l0).toList == (strOfNums l1).toList)) = some r := h
  clear h
  obtain rfl := Option.some.inj H
  have hcv3 := Kd.C_string (P := Try.prog) (A := A0) (c := c0) Try.underlying34 Try.underlying5 Try.underlying9 HR0.out
  have hcv3n := fun n_ : Nat => Kd.C_string (P := Try.prog) (A := A0) (c := c0) Try.underlying34 Try.underlying5 Try.underlying9 (Kd.C_drewN HR0.out n_)
  (try simp only [World.drewN_drewN] at hcv3n)
  have hcv4 := Kd.C_string (P := Try.prog) (A := A1) (c := c1) Try.underlying34 Try.underlying5 Try.underlying9 HR1.out
  have hcv4n := fun n_ : Nat => Kd.C_string (P := Try.prog) (A := A1) (c := c1) Try.underlying34 Try.underlying5 Try.underlying9 (Kd.C_drewN HR1.out n_)
  (try simp only [World.drewN_drewN] at hcv4n)
  go_enter Try.func24, Try.ntmps24
  go_wp2
  go_ret
  exact ⟨by first | rfl | (simp; done) | (simp [*]; done), by repeat (first | exact Drawn0.refl _ | apply Drawn0.step)⟩

end Go.Proofs.Ytihdomhiiolojaa.P
namespace Go.Proofs.Ytihdomhiiolojaa.P
open Go.RowKit Go.Proofs.YtihdomhiiolojaaW.PrintWords Go.Proofs.YtihdomhiiolojaaW.PrintLast Go.Proofs.YtihdomhiiolojaaW.PrintMore
set_option linter.unusedVariables false
set_option linter.unusedSimpArgs false

theorem S_Kp {α : Type} {d : Kd α} {e base : Nat} {ok : Nat → Prop} {W w1 : World} {v : Value} {xs : List α} (h : Kd.S d e W base ok v xs) (hk : Kp W w1) (he : ∀ q, q ∈ e :: d.E → q ≠ 56 ∧ q ≠ 50) : Kd.S d e w1 base ok v xs :=
  Kd.S_mono (Kd.S_move (Kd.S_bound h) (fun k hk' => by
    obtain ⟨_, _, _, q, hq, cells, hc⟩ := hk'
    exact hk k cells q (0, 0) hc (he q hq).1 (he q hq).2)) (fun _ h => h.1)
theorem HS.grown {w W W' : World} {g : Nat} {S : List (List En)} {row : Option Nat} (h : HS w W g S) (hB : Below w.heap.size w W') (hg : W.grownBy W' row) (hr : ∀ k, row = some k → ∃ cells, W.heap[k]? = some (.cells cells 41 (0, 0))) : HS w W' g S :=
  h.step hB (fun k cs t hk ht => hg.block k (Array.getElem?_eq_some_iff.1 hk).1 (fun e => by
    obtain ⟨cells, hc⟩ := hr k e.symm
    rw [hk] at hc
    injection hc with hc
    injection hc with _ hc
    rcases ht with rfl | rfl
    · exact absurd hc (by decide)
    · exact absurd hc (by decide)))
theorem eq_quiet {A0 : Option Addr} {c0 : Nat} {l0 : List Int} {A1 : Option Addr} {c1 : Nat} {l1 : List Int} {w : World} (hr0 : Kd.C (Kd.int .u8) w A0 l0.length l0) (hc0 : l0.length ≤ c0) (hr1 : Kd.C (Kd.int .u8) w A1 l1.length l1) (hc1 : l1.length ≤ c1) (n : Nat) :
    Calls Try.prog 24 #[.slice A0 l0.length c0, .slice A1 l1.length c1] (w.drewN n) fun e w'' => e = .returned (.bool (decide (cmpI l0 l1 = 0))) ∧ ∃ m, w'' = w.drewN m := by
  refine Calls.quiet_of ?_
  refine (bytes_Equal.calls A0 c0 l0 A1 c1 l1 (decide (cmpI l0 l1 = 0)) (w.drewN n) (Kd.C_below hr0 (pw_below_drewN (Below.refl _ _) n)) hc0 (Kd.C_below hr1 (pw_below_drewN (Below.refl _ _) n)) hc1 (by unfold bytes_Equal.f; rw [str_beq])).mono ?_
  rintro e w' ⟨rfl, hd⟩
  exact ⟨rfl, hd.out⟩
abbrev SnA (W' : World) (gx : Nat) (a : Addr) (x y : Ag) : Prop := W'.cell? ⟨a.block, a.off + 1, none⟩ = some (.int .u64 y.f0) ∧ W'.cell? ⟨a.block, a.off + 2, none⟩ = some (.bool y.f1) ∧ W'.cell? ⟨a.block, a.off + 3, none⟩ = some (.int .i64 y.f2.f0) ∧ W'.cell? ⟨a.block, a.off + 4, none⟩ = some (.int .u64 y.f2.f1) ∧ W'.cell? ⟨a.block, a.off + 5, none⟩ = some (.int .i64 y.f3) ∧ W'.cell? ⟨a.block, a.off + 6, none⟩ = some (.int .i64 y.f4) ∧
  W'.cell? ⟨gx, 1, none⟩ = some (.int .u64 x.f0) ∧ W'.cell? ⟨gx, 2, none⟩ = some (.bool x.f1) ∧ W'.cell? ⟨gx, 3, none⟩ = some (.int .i64 x.f2.f0) ∧ W'.cell? ⟨gx, 4, none⟩ = some (.int .u64 x.f2.f1) ∧ W'.cell? ⟨gx, 5, none⟩ = some (.int .i64 x.f3) ∧ W'.cell? ⟨gx, 6, none⟩ = some (.int .i64 x.f4)
theorem SnA.below {W W' : World} {gx : Nat} {a : Addr} {x y : Ag} (h : SnA W gx a x y) (hb : Below W.heap.size W W') : SnA W' gx a x y := by
  obtain ⟨h1, h2, h3, h4, h5, h6, h7, h8, h9, h10, h11, h12⟩ := h
  exact ⟨cell_bl' h1 hb, cell_bl' h2 hb, cell_bl' h3 hb, cell_bl' h4 hb, cell_bl' h5 hb, cell_bl' h6 hb, cell_bl' h7 hb, cell_bl' h8 hb, cell_bl' h9 hb, cell_bl' h10 hb, cell_bl' h11 hb, cell_bl' h12 hb⟩
abbrev stA (W : World) (a : Addr) (z : Ag) : World := (((((W.setCell ⟨a.block, a.off + 1, none⟩ (.int .u64 z.f0)).setCell ⟨a.block, a.off + 1 + 1, none⟩ (.bool z.f1)).setCell ⟨a.block, a.off + 1 + 2, none⟩ (.int .i64 z.f2.f0)).setCell ⟨a.block, a.off + 1 + 3, none⟩ (.int .u64 z.f2.f1)).setCell ⟨a.block, a.off + 1 + 4, none⟩ (.int .i64 z.f3)).setCell ⟨a.block, a.off + 1 + 5, none⟩ (.int .i64 z.f4)
/-- What is known is written into an element of a row of entries. -/
theorem S_putA {W : World} {base n c i : Nat} {ad : Addr} {l : List En} {y : En} (h : Kd.S k41 41 W base (fun _ => True) (.slice (some ad) n c) l) (hy : l[i]? = some y) (z : Ag) :
    Kd.S k41 41 (stA W (ad.add (i * 7)) z) base (fun _ => True) (.slice (some ad) n c) (l.set i ⟨y.f0, z⟩) ∧ W.grownBy (stA W (ad.add (i * 7)) z) (some ad.block) ∧ base ≤ ad.block := by
  obtain ⟨b, rfl⟩ := Kd.R_head (Kd.S_R h)
  have hn := (Kd.S_reads' h).1
  have hi := (List.getElem?_eq_some_iff.1 hy).1
  obtain ⟨oki, c7, hcl, hM, hcc, hfr, hoki, hH⟩ := Kd.S_elem h z41 (i : Int) (by omega) (by omega)
  rw [Int.toNat_natCast, List.getD_eq_getElem?_getD, hy] at hM
  obtain ⟨v0, rfl, g0⟩ := k41_openM hM
  have hs := Kd.S_seg0 hH (by omega) (by omega) (seg := [.int .u64 z.f0, .bool z.f1, .int .i64 z.f2.f0, .int .u64 z.f2.f1, .int .i64 z.f3, .int .i64 z.f4]) (j := 1) (show 1 + 6 ≤ 7 by decide) (x' := ⟨y.f0, z⟩) (k41_mkM W base oki ⟨y.f0, z⟩ g0) (fun _ hk => hk)
  rw [Int.toNat_natCast] at hs
  rw [add_mk]
  exact ⟨hs.1, hs.2, Kd.S_base h b (by simp [Value.ownBlock])⟩
def AllP (w : World) (rows : List (List En)) (e : Ending) (w' : World) : Prop :=
  (newE rows ≠ 0 ∧ e = .returned (.tuple #[.slice none 0 0, .int .i64 (newE rows)]) ∧ Below w.heap.size w w') ∨
  (newE rows = 0 ∧ ∃ v, e = .returned (.tuple #[v, .int .i64 0]) ∧ Kd.S k41 41 w' w.heap.size (fun _ => True) v (allM rows) ∧ Below w.heap.size w w')
set_option maxHeartbeats 4000000 in
set_option maxRecDepth 100000 in
theorem All_walk (A0 : Option Addr) (c0 : Nat) (rows : List (List En)) (w : World) (hr0 : Kd.C (Kd.slice 41 k41) w A0 rows.length rows) (hn : rows.length ≤ 100000000) (hk : ∀ l ∈ rows, ∀ x ∈ l, x.f0.length < 140737488355328) (hw : ∀ l ∈ rows, ∀ x ∈ l, okW x.f1) (hc : cntL rows ≤ 1000000000) :
    Calls Try.prog 16 #[.slice A0 rows.length c0] w fun e w' => AllP w rows e w' := by
  have hu := Try.underlying41
  have hu2 := Try.underlying39
  have HCN := Aside0.mk (New_S A0 c0 rows w hr0 hn hk)
  have HWW := Aside0.mk hw
  have HCC := Aside0.mk hc
  clear hr0 hn hk hw hc
  go_enter Try.func16, Try.ntmps16
  by_cases hz0 : newE rows = 0
  · have HZ := Aside0.mk hz0
    have HCN0 := Aside0.mk (show Calls Try.prog 12 #[.slice A0 rows.length c0] w fun e w' => ∃ g, e = .returned (.tuple #[.pointer (some ⟨g, 0, none⟩), .int .i64 0]) ∧ HS w w' g rows from HCN.out.mono (by rintro e w' (⟨hne, _⟩ | ⟨_, h⟩); exact absurd hz0 hne; exact h))
    clear hz0
    go_wp2_with (first
      | (go_at_call 12; refine (HCN0.out).mono ?_; rintro e w9 ⟨g, rfl, hs⟩; have HH := Aside0.mk hs; clear hs))
    go_loopg [6] (cntL rows) (fun kq v6 w' => ∃ (S : List (List En)) (l : List En), Aside0 (kq = cntL S) ∧ Aside0 (HS w w' g S) ∧ Aside0 (Kd.S k41 41 w' w.heap.size (fun _ => True) v6 l) ∧ Aside0 (((mall S).map Prod.fst).foldl addM l = allM rows) ∧ Aside0 (l.length + cntL S ≤ cntL rows) ∧ Aside0 ((∀ r ∈ S, ∀ x ∈ r, okW x.f1) ∧ ∀ x ∈ l, okW x.f1))
    case atStart => exact ⟨rows, [], ⟨rfl⟩, HH, ⟨Kd.S_nil _ _ _ _ _⟩, ⟨rfl⟩, ⟨by simp⟩, ⟨HWW.out, fun x hx => by simp at hx⟩⟩
    case round =>
      obtain ⟨S, l, HK, HHS, HO, HF, HL, HOK⟩ := hrel
      have HCALL := Aside0.mk (Next_S HHS.out)
      cases hm : mstep S with
      | none =>
        have HM := Aside0.mk hm
        clear hm
        go_wp2_with (first
          | (go_at_call 14; refine (HCALL.out).mono ?_; rintro e w9 ⟨hk9, hz9, hh9⟩; rw [HM.out] at hh9; obtain ⟨rfl, hb9⟩ := hh9; have HB9 := Aside0.mk hb9; have HK9 := Aside0.mk hk9; clear hb9 hk9 hz9))
        refine bodyPost_ret (results_tmp2 rfl _ _ _) rfl ?_
        refine .inr ⟨HZ.out, u6, rfl, ?_, ?_⟩
        · have e : l = allM rows := by have := HF.out; rw [mall_none HM.out] at this; exact this
          rw [← e]
          exact Kd.S_alloc (S_Kp HO.out HK9.out (by decide)) _
        · exact below_alloc (HHS.out.be.trans (HB9.out.mono HHS.out.be.size)) _
      | some r =>
        obtain ⟨x, p, S'⟩ := r
        have HM := Aside0.mk hm
        have HC := Aside0.mk (show Calls Try.prog 14 #[.pointer (some ⟨g, 0, none⟩)] wr fun e w' => ∃ (A5 : Option Addr) (c5 : Nat), e = .returned (.tuple #[enV A5 c5 x, .int .i64 (p : Int), .bool true]) ∧ Kd.R (Kd.int .u8) 5 w' wr.heap.size (fun _ => True) (.slice A5 x.f0.length c5) x.f0 ∧ HS w w' g S' ∧ Kp wr w' ∧ wr.heap.size ≤ w'.heap.size from HCALL.out.mono (by
          rintro e w' ⟨hk, hz, h⟩
          rw [hm] at h
          obtain ⟨A5, c5, he, ho, hs⟩ := h
          exact ⟨A5, c5, he, ho, hs, hk, hz⟩))
        obtain ⟨A6, c6, hv6⟩ := Kd.S_slice HO.out
        obtain ⟨n, hn⟩ : ∃ n, l.length = n := ⟨_, rfl⟩
        rw [hn] at hv6
        subst hv6
        have HNN := Aside0.mk hn
        clear hm HCALL hn
        go_upto_if 26 with (first
          | (go_at_call 14; refine (HC.out).mono ?_; rintro e w9 ⟨A5, c5, rfl, ho, hs, hk9, hz9⟩; have HO9 := Aside0.mk ho; have HH9 := Aside0.mk hs; have HK9 := Aside0.mk hk9; have HZ9 := Aside0.mk hz9; clear ho hs hk9 hz9))
        obtain ⟨gx, hgx⟩ : ∃ k, w9.heap.size = k := ⟨_, rfl⟩
        obtain ⟨V, hV⟩ : ∃ V, w9.alloc (.cells #[.slice A5 x.f0.length c5, .int .u64 x.f1.f0, .bool x.f1.f1, .int .i64 x.f1.f2.f0, .int .u64 x.f1.f2.f1, .int .i64 x.f1.f3, .int .i64 x.f1.f4] 41) = V := ⟨_, rfl⟩
        have v9 : Below w9.heap.size w9 V := by rw [← hV]; exact below_alloc (Below.refl _ _) _
        have vx : V.heap[gx]? = some (.cells #[.slice A5 x.f0.length c5, .int .u64 x.f1.f0, .bool x.f1.f1, .int .i64 x.f1.f2.f0, .int .u64 x.f1.f2.f1, .int .i64 x.f1.f3, .int .i64 x.f1.f4] 41 (0, 0)) := by rw [← hV, ← hgx]; exact blk_new w9 _
        have HVX := Aside0.mk vx
        have HVZ := Aside0.mk (show wr.heap.size ≤ gx ∧ V.heap.size = gx + 1 from ⟨by have := HZ9.out; omega, by rw [← hV, World.size_alloc, hgx]⟩)
        have HVH := Aside0.mk (HH9.out.below v9)
        have HVO := Aside0.mk (Kd.R_below HO9.out v9)
        have HVR := Aside0.mk (Kd.S_below (S_Kp (Kd.S_mono (ok' := fun k => k < wr.heap.size) (Kd.S_bound HO.out) (fun k hk => hk.2.2.1)) HK9.out (by decide)) v9)
        rw [hgx, hV]
        clear v9 vx hgx hV HO HH9 HO9
        by_cases hl0 : l = []
        · have HADD := Aside0.mk (show addM l x = l ++ [x] by rw [hl0]; rfl)
          obtain rfl : n = 0 := by have := HNN.out; rw [hl0] at this; exact this.symm
          clear hl0
          go_wp2
          go_quiet (fail)
          obtain ⟨W2, hW2⟩ : ∃ W2, V.drewN nq = W2 := ⟨_, rfl⟩
          have b2 : Below V.heap.size V W2 := by rw [← hW2]; exact pw_below_drewN (Below.refl _ _) _
          have hx2 := (b2.block gx (Array.getElem?_eq_some_iff.1 HVX.out).1).trans HVX.out
          have x0 : W2.cell? ⟨gx, 0, none⟩ = some (.slice A5 x.f0.length c5) := (blk_cell hx2 0).trans rfl
          have x1 : W2.cell? ⟨gx, 1, none⟩ = some (.int .u64 x.f1.f0) := (blk_cell hx2 1).trans rfl
          have x2 : W2.cell? ⟨gx, 2, none⟩ = some (.bool x.f1.f1) := (blk_cell hx2 2).trans rfl
          have x3 : W2.cell? ⟨gx, 3, none⟩ = some (.int .i64 x.f1.f2.f0) := (blk_cell hx2 3).trans rfl
          have x4 : W2.cell? ⟨gx, 4, none⟩ = some (.int .u64 x.f1.f2.f1) := (blk_cell hx2 4).trans rfl
          have x5 : W2.cell? ⟨gx, 5, none⟩ = some (.int .i64 x.f1.f3) := (blk_cell hx2 5).trans rfl
          have x6 : W2.cell? ⟨gx, 6, none⟩ = some (.int .i64 x.f1.f4) := (blk_cell hx2 6).trans rfl
          have HP := Aside0.mk (k41_mkM W2 w.heap.size (fun k => wr.heap.size ≤ k) x (Kd.R_lower (Kd.R_mono (Kd.R_bound (Kd.R_below HVO.out b2)) (fun k hk => hk.2.1)) HHS.out.be.size))
          have HR2 := Aside0.mk (Kd.S_below HVR.out b2)
          have HH2 := Aside0.mk (HVH.out.below b2)
          have HW2 := Aside0.mk (show V.heap.size ≤ W2.heap.size from b2.size)
          have HLT := Aside0.mk (Kd.S_lt HR2.out)
          rw [hW2]
          clear b2 hx2 hW2
          go_wp2_with (first
            | ((with_reducible refine gate_builtin (b := .append) (xs := #[.tmp 57, .tmp 59]) rfl ?_); at_builtin; refine Kd.S_append k41 (w0 := w) (W := W2) w.heap.size rfl (.tmp 57) (.tmp 59) 44 41 (.agg #[.slice none 0 0, .int .u64 0, .bool false, .int .i64 0, .int .u64 0, .int .i64 0, .int .i64 0]) 72 rfl Try.underlying44 info41 rfl (by decide) (by omega) _ l x _ (fun _ => True) (fun k => wr.heap.size ≤ k) rfl rfl ?hp ?hokp (fun _ _ => trivial) ?HO ?HB ?hbase ?hl ?_; (case hp => exact HP.out); (case hokp => exact fun k hk => ⟨trivial, fun e_ => by have h_ := HR2.out; have h2_ := (Kd.S_R h_).1 k e_.symm; omega⟩); (case HO => exact Kd.S_mono HR2.out (fun k hk => ⟨trivial, by omega⟩)); (case HB => exact HH2.out.be); (case hbase => exact HH2.out.be.size); (case hl => have := HL.out; have := HCC.out; omega); intro v1 w1 r1 r2 r3 r4; have R1 := Aside0.mk r1; have HH1 := Aside0.mk (HH2.out.grown r2 r3 (Kd.S_typed HR2.out)); clear r1 r2 r3 r4))
          go_roundg (cntL S')
          case measure => have h1 := HK.out; obtain ⟨_, _, _, _, h2⟩ := mstep_some HM.out; omega
          case rel =>
            have hc := HM.out
            obtain ⟨_, _, _, _, h2⟩ := mstep_some hc
            refine ⟨S', l ++ [x], ⟨rfl⟩, HH1, R1, ⟨by have := HF.out; rw [mall_some hc, List.map_cons, List.foldl_cons, HADD.out] at this; exact this⟩, ⟨by rw [List.length_append, List.length_singleton]; have := HL.out; omega⟩, ⟨(mstep_all (P := fun y => okW y.f1) hc HOK.out.1).2, fun y hy => ?_⟩⟩
            rcases List.mem_append.1 hy with hy | hy
            · exact HOK.out.2 y hy
            · obtain rfl := List.mem_singleton.1 hy
              exact (mstep_all (P := fun y => okW y.f1) hc HOK.out.1).1
        · obtain ⟨i, hi⟩ : ∃ i, n = i + 1 := ⟨n - 1, by have := HNN.out; have := List.length_pos_iff.2 hl0; omega⟩
          obtain ⟨y, hy⟩ : ∃ y, l[i]? = some y := ⟨_, List.getElem?_eq_getElem (by have := HNN.out; omega)⟩
          have hlast : l.getLast? = some y := by rw [List.getLast?_eq_getElem?, HNN.out, hi]; exact hy
          have hCV := (Kd.S_reads' HVR.out).2.2
          obtain ⟨ad, B, d, hA, k0, k1, k2, k3, k4, k5, k6, hl1, hC1⟩ := at_en hCV hy
          obtain ⟨_, hc5, hC5⟩ := Kd.R_reads' HVO.out
          have hq := eq_quiet hC1 hl1 hC5 hc5
          have hx0 : V.cell? ⟨gx, 0, none⟩ = some (.slice A5 x.f0.length c5) := (blk_cell HVX.out 0).trans rfl
          have HQ := Aside0.mk hq
          have hw1 : wrap64 ((n : Int) - 1) = (i : Int) := by unfold wrap64; have := HL.out; have := HCC.out; have := HNN.out; omega
          have hw1b : IntKind.i64.wrap ((n : Int) - 1) = (i : Int) := by rw [IntWalk.i64_left]; exact hw1
          subst hA
          have HI := Aside0.mk hi
          have z1 : decide (0 < (n : Int)) = true := decide_eq_true (by omega)
          have z1b : decide (0 < n) = true := decide_eq_true (by omega)
          have i1 : (0 ≤ (i : Int)) = True := eq_true (by omega)
          have i2 : ((i : Int) < (n : Int)) = True := eq_true (by omega)
          have i3 : (i < n) = True := eq_true (by omega)
          have HY := Aside0.mk hy
          have HLA := Aside0.mk hlast
          clear hi hy hlast
          by_cases hce : cmpI y.f0 x.f0 = 0
          · rw [decide_eq_true hce] at hq
            have HQ := Aside0.mk hq
            have HCE := Aside0.mk hce
            clear hq hce hCV hC1 hl1 hc5 hC5
            go_wp2
            go_quiet ((go_at_call 24; exact HQ.out _))
            obtain ⟨W2, hW2⟩ : ∃ W2, V.drewN nq = W2 := ⟨_, rfl⟩
            have b2 : Below V.heap.size V W2 := by rw [← hW2]; exact pw_below_drewN (Below.refl _ _) _
            have HX2 := Aside0.mk ((b2.block gx (Array.getElem?_eq_some_iff.1 HVX.out).1).trans HVX.out)
            have hsn : SnA V gx (ad.add (i * 7)) x.f1 y.f1 := ⟨k1, k2, k3, k4, k5, k6, (blk_cell HVX.out 1).trans rfl, (blk_cell HVX.out 2).trans rfl, (blk_cell HVX.out 3).trans rfl, (blk_cell HVX.out 4).trans rfl, (blk_cell HVX.out 5).trans rfl, (blk_cell HVX.out 6).trans rfl⟩
            have HSN := Aside0.mk (hsn.below b2)
            have HR2 := Aside0.mk (Kd.S_below HVR.out b2)
            have HH2 := Aside0.mk (HVH.out.below b2)
            have HOX := Aside0.mk (mstep_all (P := fun y => okW y.f1) HM.out HOK.out.1)
            have HOY := Aside0.mk (HOK.out.2 y (List.mem_of_getElem? HY.out))
            obtain ⟨r1, r2, r3, r4, r5, r6, hmg, hma, hmo⟩ := mgA_some HOY.out HOX.out.1
            have HMG := Aside0.mk (fun W => agg_Merge.calls _ _ _ _ _ _ _ _ _ _ _ _ r1 r2 r3 r4 r5 r6 W hmg)
            have HMA := Aside0.mk (And.intro hma hmo)
            have HFZ := Aside0.mk (show ∀ W', Below W2.heap.size W2 W' → ∀ j, W'.frozen? ⟨(ad.add (i * 7)).block, (ad.add (i * 7)).off + j, none⟩ = false from by
              intro W' hb j
              obtain ⟨b, rfl⟩ := Kd.R_head (Kd.S_R HR2.out)
              obtain ⟨cells, hcl⟩ := Kd.S_typed HR2.out b (by simp [Value.ownBlock])
              rw [add_mk]
              exact blk_frozen ((hb.block b (Array.getElem?_eq_some_iff.1 hcl).1).trans hcl) _)
            rw [hW2]
            clear b2 hW2 hsn hmg hma hmo k0 k1 k2 k3 k4 k5 k6 hx0
            go_wp2
            have HS0 := Aside0.mk (show SnA W2.drew gx (ad.add (i * 7)) x.f1 y.f1 from HSN.out)
            refine wp_region_last_drew (ds := [14]) (S := fun W' => W'.cell? ⟨(ad.add (i * 7)).block, (ad.add (i * 7)).off + 1, none⟩ = some (.int .u64 y.f1.f0) ∧ W'.cell? ⟨(ad.add (i * 7)).block, (ad.add (i * 7)).off + 2, none⟩ = some (.bool y.f1.f1) ∧ W'.cell? ⟨(ad.add (i * 7)).block, (ad.add (i * 7)).off + 3, none⟩ = some (.int .i64 y.f1.f2.f0) ∧ W'.cell? ⟨(ad.add (i * 7)).block, (ad.add (i * 7)).off + 4, none⟩ = some (.int .u64 y.f1.f2.f1) ∧ W'.cell? ⟨(ad.add (i * 7)).block, (ad.add (i * 7)).off + 5, none⟩ = some (.int .i64 y.f1.f3) ∧ W'.cell? ⟨(ad.add (i * 7)).block, (ad.add (i * 7)).off + 6, none⟩ = some (.int .i64 y.f1.f4) ∧   W'.cell? ⟨gx, 1, none⟩ = some (.int .u64 x.f1.f0) ∧ W'.cell? ⟨gx, 2, none⟩ = some (.bool x.f1.f1) ∧ W'.cell? ⟨gx, 3, none⟩ = some (.int .i64 x.f1.f2.f0) ∧ W'.cell? ⟨gx, 4, none⟩ = some (.int .u64 x.f1.f2.f1) ∧ W'.cell? ⟨gx, 5, none⟩ = some (.int .i64 x.f1.f3) ∧ W'.cell? ⟨gx, 6, none⟩ = some (.int .i64 x.f1.f4)) (by kernel_rfl) ?_ (fun hS0 => ?_);
            focus exact HS0.out
            (refine wpAnyLast_take (i := 0) (v := ?_) rfl (by kernel_rfl) (by kernel_rfl) (by kernel_rfl) (by kernel_rfl) (by kernel_rfl) (fun _ _ _ h => h) (Or.inl ⟨by rfl, ?_⟩) (by assumption) ?_; rotate_left 1; focus (intro ww hSw; (try dsimp only at hSw); go_simp; try with_reducible rfl)); try simp only [Act.put, List.setIfInBounds_toArray, List.set_cons_zero, List.set_cons_succ]
            (refine wpAnyLast_take (i := 1) (v := ?_) rfl (by kernel_rfl) (by kernel_rfl) (by kernel_rfl) (by kernel_rfl) (by kernel_rfl) (fun _ _ _ h => h) (Or.inl ⟨by rfl, ?_⟩) (by assumption) ?_; rotate_left 1; focus (intro ww hSw; (try dsimp only at hSw); go_simp; try with_reducible rfl)); try simp only [Act.put, List.setIfInBounds_toArray, List.set_cons_zero, List.set_cons_succ]
            (refine wpAnyLast_take (i := 2) (v := ?_) rfl (by kernel_rfl) (by kernel_rfl) (by kernel_rfl) (by kernel_rfl) (by kernel_rfl) (fun _ _ _ h => h) (Or.inl ⟨by rfl, ?_⟩) (by assumption) ?_; rotate_left 1; focus (intro ww hSw; (try dsimp only at hSw); go_simp; try with_reducible rfl)); try simp only [Act.put, List.setIfInBounds_toArray, List.set_cons_zero, List.set_cons_succ]
            (refine wpAnyLast_take (i := 3) (v := ?_) rfl (by kernel_rfl) (by kernel_rfl) (by kernel_rfl) (by kernel_rfl) (by kernel_rfl) (fun _ _ _ h => h) (Or.inl ⟨by rfl, ?_⟩) (by assumption) ?_; rotate_left 1; focus (intro ww hSw; (try dsimp only at hSw); go_simp; try with_reducible rfl)); try simp only [Act.put, List.setIfInBounds_toArray, List.set_cons_zero, List.set_cons_succ]
            (refine wpAnyLast_take (i := 4) (v := ?_) rfl (by kernel_rfl) (by kernel_rfl) (by kernel_rfl) (by kernel_rfl) (by kernel_rfl) (fun _ _ _ h => h) (Or.inl ⟨by rfl, ?_⟩) (by assumption) ?_; rotate_left 1; focus (intro ww hSw; (try dsimp only at hSw); go_simp; try with_reducible rfl)); try simp only [Act.put, List.setIfInBounds_toArray, List.set_cons_zero, List.set_cons_succ]
            (refine wpAnyLast_take (i := 5) (v := ?_) rfl (by kernel_rfl) (by kernel_rfl) (by kernel_rfl) (by kernel_rfl) (by kernel_rfl) (fun _ _ _ h => h) (Or.inl ⟨by rfl, ?_⟩) (by assumption) ?_; rotate_left 1; focus (intro ww hSw; (try dsimp only at hSw); go_simp; try with_reducible rfl)); try simp only [Act.put, List.setIfInBounds_toArray, List.set_cons_zero, List.set_cons_succ]
            (refine wpAnyLast_take (i := 6) (v := ?_) rfl (by kernel_rfl) (by kernel_rfl) (by kernel_rfl) (by kernel_rfl) (by kernel_rfl) (fun _ _ _ h => h) (Or.inl ⟨by rfl, ?_⟩) (by assumption) ?_; rotate_left 1; focus (intro ww hSw; (try dsimp only at hSw); go_simp; try with_reducible rfl)); try simp only [Act.put, List.setIfInBounds_toArray, List.set_cons_zero, List.set_cons_succ]
            (refine wpAnyLast_take (i := 7) (v := ?_) rfl (by kernel_rfl) (by kernel_rfl) (by kernel_rfl) (by kernel_rfl) (by kernel_rfl) (fun _ _ _ h => h) (Or.inl ⟨by rfl, ?_⟩) (by assumption) ?_; rotate_left 1; focus (intro ww hSw; (try dsimp only at hSw); go_simp; try with_reducible rfl)); try simp only [Act.put, List.setIfInBounds_toArray, List.set_cons_zero, List.set_cons_succ]
            (refine wpAnyLast_take (i := 8) (v := ?_) rfl (by kernel_rfl) (by kernel_rfl) (by kernel_rfl) (by kernel_rfl) (by kernel_rfl) (fun _ _ _ h => h) (Or.inl ⟨by rfl, ?_⟩) (by assumption) ?_; rotate_left 1; focus (intro ww hSw; (try dsimp only at hSw); go_simp; try with_reducible rfl)); try simp only [Act.put, List.setIfInBounds_toArray, List.set_cons_zero, List.set_cons_succ]
            (refine wpAnyLast_take (i := 9) (v := ?_) rfl (by kernel_rfl) (by kernel_rfl) (by kernel_rfl) (by kernel_rfl) (by kernel_rfl) (fun _ _ _ h => h) (Or.inl ⟨by rfl, ?_⟩) (by assumption) ?_; rotate_left 1; focus (intro ww hSw; (try dsimp only at hSw); go_simp; try with_reducible rfl)); try simp only [Act.put, List.setIfInBounds_toArray, List.set_cons_zero, List.set_cons_succ]
            (refine wpAnyLast_take (i := 10) (v := ?_) rfl (by kernel_rfl) (by kernel_rfl) (by kernel_rfl) (by kernel_rfl) (by kernel_rfl) (fun _ _ _ h => h) (Or.inl ⟨by rfl, ?_⟩) (by assumption) ?_; rotate_left 1; focus (intro ww hSw; (try dsimp only at hSw); go_simp; try with_reducible rfl)); try simp only [Act.put, List.setIfInBounds_toArray, List.set_cons_zero, List.set_cons_succ]
            refine wpAnyLast_ready (rs := [11]) (by kernel_rfl) (by simp) (AllReadyL.cons rfl (by decide) (fun K hK => ?_) AllReadyL.nil)
            go_simp
            refine (HMG.out _).mono ?_
            rintro e w10 ⟨rfl, hb⟩
            have HB10 := Aside0.mk (show Below W2.heap.size W2 w10 from (below_drew (Below.refl _ _)).trans hb)
            have HS9 := Aside0.mk (SnA.below HSN.out HB10.out)
            clear hb
            refine hK _ _ HS9.out (fun hS1 => ?_)
            clear hK K
            (refine wpAnyLast_take (i := 12) (v := ?_) rfl (by kernel_rfl) (by kernel_rfl) (by kernel_rfl) (by kernel_rfl) (by kernel_rfl) (fun _ _ _ h => h) (Or.inl ⟨by rfl, ?_⟩) (by assumption) ?_; rotate_left 1; focus (intro ww hSw; (try dsimp only at hSw); go_simp; try with_reducible rfl)); try simp only [Act.put, List.setIfInBounds_toArray, List.set_cons_zero, List.set_cons_succ]
            (refine wpAnyLast_take (i := 13) (v := ?_) rfl (by kernel_rfl) (by kernel_rfl) (by kernel_rfl) (by kernel_rfl) (by kernel_rfl) (fun _ _ _ h => h) (Or.inl ⟨by rfl, ?_⟩) (by assumption) ?_; rotate_left 1; focus (intro ww hSw; (try dsimp only at hSw); go_simp; try with_reducible rfl)); try simp only [Act.put, List.setIfInBounds_toArray, List.set_cons_zero, List.set_cons_succ]
            have sn := HS9.out
            have s1 := sn.1; have s2 := sn.2.1; have s3 := sn.2.2.1; have s4 := sn.2.2.2.1; have s5 := sn.2.2.2.2.1; have s6 := sn.2.2.2.2.2.1
            have q1 := HFZ.out w10 HB10.out 1; have q2 := HFZ.out w10 HB10.out 2; have q3 := HFZ.out w10 HB10.out 3; have q4 := HFZ.out w10 HB10.out 4; have q5 := HFZ.out w10 HB10.out 5; have q6 := HFZ.out w10 HB10.out 6
            clear sn
            refine wpAnyLast_ready (rs := [14]) (by kernel_rfl) (by simp) (AllReadyL.cons_last rfl (by decide) (fun K hK => ?_) AllReadyL.nil)
            (go_simp; refine hK _ _ ?_; clear hK K)
            refine wpAnyLast_done (by kernel_rfl) ?_ _;
            clear s1 s2 s3 s4 s5 s6 q1 q2 q3 q4 q5 q6
            obtain ⟨p1, p2, p3⟩ := S_putA (Kd.S_below (Kd.S_mono (ok' := fun _ => True) HR2.out (fun _ _ => trivial)) HB10.out) HY.out ⟨r1, r2, ⟨r3, r4⟩, r5, r6⟩
            obtain ⟨W11, hW11⟩ : ∃ W11, stA w10 (ad.add (i * 7)) ⟨r1, r2, ⟨r3, r4⟩, r5, r6⟩ = W11 := ⟨_, rfl⟩
            rw [hW11] at p1 p2
            have hty := Kd.S_typed HR2.out ad.block (by obtain ⟨b, rfl⟩ := Kd.R_head (Kd.S_R HR2.out); simp [Value.ownBlock])
            have HP1 := Aside0.mk p1
            have HH1 := Aside0.mk ((HH2.out.below HB10.out).grown (pw_below_grown (HH2.out.be.trans (HB10.out.mono HH2.out.be.size)) (some ad.block) (by have := HH2.out.be.size; have := HB10.out.size; omega) p2 (by rintro k ⟨⟩; exact p3)) p2 (by rintro k ⟨⟩; obtain ⟨cells, hc⟩ := hty; exact ⟨cells, (HB10.out.block _ (Array.getElem?_eq_some_iff.1 hc).1).trans hc⟩))
            change Exit.inBlock 1 _ Exit.normal _ (stA w10 (ad.add (i * 7)) ⟨r1, r2, ⟨r3, r4⟩, r5, r6⟩)
            rw [hW11]
            clear p1 p2 p3 hW11 hty
            go_wp2
            have HADD := Aside0.mk (show addM l x = l.set i ⟨y.f0, mgA y.f1 x.f1⟩ by unfold addM; rw [HLA.out]; simp only []; rw [if_pos HCE.out, HNN.out, HI.out]; rfl)
            go_roundg (cntL S')
            case measure => have h1 := HK.out; obtain ⟨_, _, _, _, h2⟩ := mstep_some HM.out; omega
            case rel =>
              have hc := HM.out
              obtain ⟨_, _, _, _, h2⟩ := mstep_some hc
              refine ⟨S', l.set i ⟨y.f0, mgA y.f1 x.f1⟩, ⟨rfl⟩, HH1, ⟨by rw [HMA.out.1]; exact HP1.out⟩, ⟨by have := HF.out; rw [mall_some hc, List.map_cons, List.foldl_cons, HADD.out] at this; exact this⟩, ⟨by rw [List.length_set]; have := HL.out; omega⟩, ⟨HOX.out.2, fun q hq => ?_⟩⟩
              rcases List.mem_or_eq_of_mem_set hq with hq | rfl
              · exact HOK.out.2 q hq
              · exact HMA.out.2
          · have HADD := Aside0.mk (show addM l x = l ++ [x] by unfold addM; rw [HLA.out]; simp only []; rw [if_neg hce])
            rw [decide_eq_false hce] at hq
            have HQ := Aside0.mk hq
            clear hq hce hCV hC1 hl1 hc5 hC5
            go_wp2
            go_quiet ((go_at_call 24; exact HQ.out _))
            obtain ⟨W2, hW2⟩ : ∃ W2, V.drewN nq = W2 := ⟨_, rfl⟩
            have b2 : Below V.heap.size V W2 := by rw [← hW2]; exact pw_below_drewN (Below.refl _ _) _
            have hx2 := (b2.block gx (Array.getElem?_eq_some_iff.1 HVX.out).1).trans HVX.out
            have x0 : W2.cell? ⟨gx, 0, none⟩ = some (.slice A5 x.f0.length c5) := (blk_cell hx2 0).trans rfl
            have x1 : W2.cell? ⟨gx, 1, none⟩ = some (.int .u64 x.f1.f0) := (blk_cell hx2 1).trans rfl
            have x2 : W2.cell? ⟨gx, 2, none⟩ = some (.bool x.f1.f1) := (blk_cell hx2 2).trans rfl
            have x3 : W2.cell? ⟨gx, 3, none⟩ = some (.int .i64 x.f1.f2.f0) := (blk_cell hx2 3).trans rfl
            have x4 : W2.cell? ⟨gx, 4, none⟩ = some (.int .u64 x.f1.f2.f1) := (blk_cell hx2 4).trans rfl
            have x5 : W2.cell? ⟨gx, 5, none⟩ = some (.int .i64 x.f1.f3) := (blk_cell hx2 5).trans rfl
            have x6 : W2.cell? ⟨gx, 6, none⟩ = some (.int .i64 x.f1.f4) := (blk_cell hx2 6).trans rfl
            have HP := Aside0.mk (k41_mkM W2 w.heap.size (fun k => wr.heap.size ≤ k) x (Kd.R_lower (Kd.R_mono (Kd.R_bound (Kd.R_below HVO.out b2)) (fun k hk => hk.2.1)) HHS.out.be.size))
            have HR2 := Aside0.mk (Kd.S_below HVR.out b2)
            have HH2 := Aside0.mk (HVH.out.below b2)
            have HW2 := Aside0.mk (show V.heap.size ≤ W2.heap.size from b2.size)
            have HLT := Aside0.mk (Kd.S_lt HR2.out)
            rw [hW2]
            clear b2 hx2 hW2
            go_wp2_with (first
              | ((with_reducible refine gate_builtin (b := .append) (xs := #[.tmp 57, .tmp 59]) rfl ?_); at_builtin; refine Kd.S_append k41 (w0 := w) (W := W2) w.heap.size rfl (.tmp 57) (.tmp 59) 44 41 (.agg #[.slice none 0 0, .int .u64 0, .bool false, .int .i64 0, .int .u64 0, .int .i64 0, .int .i64 0]) 72 rfl Try.underlying44 info41 rfl (by decide) (by omega) _ l x _ (fun _ => True) (fun k => wr.heap.size ≤ k) rfl rfl ?hp ?hokp (fun _ _ => trivial) ?HO ?HB ?hbase ?hl ?_; (case hp => exact HP.out); (case hokp => exact fun k hk => ⟨trivial, fun e_ => by have h_ := HR2.out; have h2_ := (Kd.S_R h_).1 k e_.symm; omega⟩); (case HO => exact Kd.S_mono HR2.out (fun k hk => ⟨trivial, by omega⟩)); (case HB => exact HH2.out.be); (case hbase => exact HH2.out.be.size); (case hl => have := HL.out; have := HCC.out; omega); intro v1 w1 r1 r2 r3 r4; have R1 := Aside0.mk r1; have HH1 := Aside0.mk (HH2.out.grown r2 r3 (Kd.S_typed HR2.out)); clear r1 r2 r3 r4))
            go_roundg (cntL S')
            case measure => have h1 := HK.out; obtain ⟨_, _, _, _, h2⟩ := mstep_some HM.out; omega
            case rel =>
              have hc := HM.out
              obtain ⟨_, _, _, _, h2⟩ := mstep_some hc
              refine ⟨S', l ++ [x], ⟨rfl⟩, HH1, R1, ⟨by have := HF.out; rw [mall_some hc, List.map_cons, List.foldl_cons, HADD.out] at this; exact this⟩, ⟨by rw [List.length_append, List.length_singleton]; have := HL.out; omega⟩, ⟨(mstep_all (P := fun y => okW y.f1) hc HOK.out.1).2, fun y hy => ?_⟩⟩
              rcases List.mem_append.1 hy with hy | hy
              · exact HOK.out.2 y hy
              · obtain rfl := List.mem_singleton.1 hy
                exact (mstep_all (P := fun y => okW y.f1) hc HOK.out.1).1
  · have HZ := Aside0.mk hz0
    have e1 : (newE rows == 0) = false := beq_eq_false_iff_ne.2 hz0
    have HCN1 := Aside0.mk (show Calls Try.prog 12 #[.slice A0 rows.length c0] w fun e w' => e = .returned (.tuple #[.pointer none, .int .i64 (newE rows)]) ∧ Below w.heap.size w w' from HCN.out.mono (by rintro e w' (⟨_, h⟩ | ⟨h0, _⟩); exact h; exact absurd h0 hz0))
    clear hz0
    go_wp2_with (first
      | (go_at_call 12; refine (HCN1.out).mono ?_; rintro e w9 ⟨rfl, hb⟩; have HB9 := Aside0.mk hb; clear hb))
    refine bodyPost_ret (results_tmp2 rfl _ _ _) rfl ?_
    exact .inl ⟨HZ.out, rfl, HB9.out⟩
/-- Rows of which All is told. -/
def GoodR (rows : List (List En)) : Prop := rows.length ≤ 100000000 ∧ (∀ l ∈ rows, ∀ x ∈ l, x.f0.length < 140737488355328 ∧ okW x.f1) ∧ cntL rows ≤ 1000000000
instance (rows : List (List En)) : Decidable (GoodR rows) := by unfold GoodR; infer_instance
def merge_All.f (l0 : List (List En)) : Option (List En × Int) := if GoodR l0 then (if newE l0 = 0 then some (allM l0, 0) else some ([], newE l0)) else none
theorem merge_All.calls (A0 : Option Addr) (c0 : Nat) (l0 : List (List En)) (r1 : List En) (r2 : Int) (w : World) (hr0 : Kd.C (Kd.slice 41 k41) w A0 l0.length l0) (hc0 : l0.length ≤ c0) (h : merge_All.f l0 = some (r1, r2)) :
    Calls Try.prog 16 #[.slice A0 l0.length c0] w fun e w' => ∃ v0_, e = .returned (.tuple #[v0_, .int .i64 r2]) ∧ Kd.S k41 41 w' w.heap.size (fun _ => True) v0_ r1 ∧ Below w.heap.size w w' := by
  unfold merge_All.f at h
  by_cases hg : GoodR l0
  · rw [if_pos hg] at h
    refine (All_walk A0 c0 l0 w hr0 hg.1 (fun l hl x hx => (hg.2.1 l hl x hx).1) (fun l hl x hx => (hg.2.1 l hl x hx).2) hg.2.2).mono ?_
    rintro e w' (⟨hne, rfl, hb⟩ | ⟨h0, v, rfl, hs, hb⟩)
    · rw [if_neg hne] at h
      cases h
      exact ⟨_, rfl, Kd.S_nil _ _ _ _ _, hb⟩
    · rw [if_pos h0] at h
      cases h
      exact ⟨_, rfl, hs, hb⟩
  · rw [if_neg hg] at h
    cases h
end Go.Proofs.Ytihdomhiiolojaa.P
