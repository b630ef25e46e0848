/- bloom's Add, by its places' iterator. No conditions. -/
import Derived.Test.YtliafeandefocaaBloomI
import Derived.Test.YtliafeandefocaaRangeW
namespace Go.Proofs.Ytliafeandefocaa.P
open Go.RowKit Go.Proofs.YtliafeandefocaaW.PrintWords Go.Proofs.YtliafeandefocaaW.PrintLast Go.Proofs.YtliafeandefocaaW.PrintMore
set_option linter.unusedVariables false
set_option linter.unusedSimpArgs false
attribute [local go_sem] Oper.semAt_some

/-- What stands between two rounds of Add: the iterator's number is the i-th, j places are set. -/
structure AddI (w : World) (g b : Nat) (h : Int) (l : List Int) (a0 B : Int) (i j : Nat) (W : World) : Prop where
  bf : Boxed W w.heap.size 24 (ptr g)
  pf : Boxed W (w.heap.size + 1) 24 (ptr g)
  pa : Boxed W (w.heap.size + 2) 54 (.int .u32 (aAt B i a0))
  pb : Boxed W (w.heap.size + 4) 54 (.int .u32 B)
  fl : Flt W g b h (addS l (plc (8 * l.length) B j a0))
  gr : w.grownBy W (some b)
  gl : g < w.heap.size
  bl : b < w.heap.size

section
variable {w A C : World} {g b : Nat} {h : Int} {l : List Int} {a0 B : Int} {i j : Nat}
theorem AddI.below (H : AddI w g b h l a0 B i j A) (hb : Below A.heap.size A C) : AddI w g b h l a0 B i j C :=
  ⟨boxed_below H.bf hb, boxed_below H.pf hb, boxed_below H.pa hb, boxed_below H.pb hb, H.fl.below hb,
    ⟨hb.os.trans H.gr.os, hb.tape.trans H.gr.tape, hb.output.trans H.gr.output, Nat.le_trans H.gr.size hb.size, fun k hk hn => (hb.block k (Nat.lt_of_lt_of_le hk H.gr.size)).trans (H.gr.block k hk hn)⟩, H.gl, H.bl⟩

/-- An object that is no row of cells is written over. -/
theorem AddI.put {k : Nat} {o : Obj} (H : AddI w g b h l a0 B i j A) (hl : A.heap[k]? = some o) (ho : o.isCells = false) (hk : w.heap.size ≤ k) (o' : Obj) : AddI w g b h l a0 B i j (A.putObj k o') := by
  refine ⟨boxed_putObj H.bf hl ho _, boxed_putObj H.pf hl ho _, boxed_putObj H.pa hl ho _, boxed_putObj H.pb hl ho _, H.fl.keep ?_ ?_, ?_, H.gl, H.bl⟩
  · exact World.putObj_heap_other (by have := H.gl; omega)
  · exact World.putObj_heap_other (by have := H.bl; omega)
  · refine ⟨H.gr.os, H.gr.tape, H.gr.output, by rw [putObj_size]; exact H.gr.size, fun j hj hn => ?_⟩
    exact (World.putObj_heap_other (by omega)).trans (H.gr.block j hj hn)

/-- A round's store. -/
theorem AddI.store (H : AddI w g b h l a0 B i i A) (j : Nat) (x : Int)
    (hj : j = (aAt B i a0 % (8 * l.length) / 8).toNat) (hx : x = (((addS l (plc (8 * l.length) B i a0)).getD j 0).toNat ||| 2 ^ (aAt B i a0 % (8 * l.length) % 8).toNat : Nat)) :
    (∀ k, w.heap.size ≤ k → (A.setCell ⟨b, j, none⟩ (.int .u8 x)).heap[k]? = A.heap[k]?) ∧ AddI w g b h l a0 B i (i + 1) (A.setCell ⟨b, j, none⟩ (.int .u8 x)) := by
  have hbl := H.bl
  have e1 : addS l (plc (8 * l.length) B (i + 1) a0) = (addS l (plc (8 * l.length) B i a0)).set j x := by
    rw [plc_snoc]
    show List.foldl setBit l _ = _
    rw [List.foldl_append]
    show setBit (addS l (plc (8 * l.length) B i a0)) (aAt B i a0 % (8 * l.length)) = _
    rw [hx, hj]
    rfl
  refine ⟨fun k hk => Below.heap_setCell _ _ _ _ (by simp; omega), boxed_far H.bf (by simp; omega) _, boxed_far H.pf (by simp; omega) _, boxed_far H.pa (by simp; omega) _, boxed_far H.pb (by simp; omega) _, ?_, ?_, H.gl, H.bl⟩
  · rw [e1]; exact H.fl.set j x
  · refine H.gr.trans ⟨rfl, rfl, rfl, by simp [World.setCell], fun k _ hn => Below.heap_setCell _ _ _ _ (fun e => hn (by rw [e]))⟩
/-- The iterator's own store. -/
theorem AddI.next (H : AddI w g b h l a0 B i j A) : AddI w g b h l a0 B (i + 1) j (A.setCell ⟨w.heap.size + 2, 0, none⟩ (.int .u32 (aAt B (i + 1) a0))) := by
  have hgl := H.gl
  have hbl := H.bl
  refine ⟨boxed_far H.bf (by simp) _, boxed_far H.pf (by simp) _, H.pa.set _, boxed_far H.pb (by simp) _, H.fl.keep (Below.heap_setCell _ _ _ _ (by simp; omega)) (Below.heap_setCell _ _ _ _ (by simp; omega)), ?_, hgl, hbl⟩
  refine ⟨H.gr.os, H.gr.tape, H.gr.output, Nat.le_trans H.gr.size (by simp [World.setCell]), fun k hk hn => ?_⟩
  exact (Below.heap_setCell _ _ _ _ (by simp; omega)).trans (H.gr.block k hk hn)
theorem Rdy.set {rec : LoopState → Option Code → Loop} {D : Nat} {p : Addr} {v : Value} (h : Rdy rec D A) (h0 : p.block < D) : Rdy rec D (A.setCell p v) :=
  h.keep (Below.heap_setCell _ _ _ _ (by omega)) (Below.heap_setCell _ _ _ _ (by omega))
end

theorem IsB.getD {l : List Int} (h : IsB l) (i : Nat) : 0 ≤ l.getD i 0 ∧ l.getD i 0 < 256 := by
  rw [List.getD_eq_getElem?_getD]
  by_cases hi : i < l.length
  · rw [List.getElem?_eq_getElem hi]; exact h _ (List.getElem_mem hi)
  · rw [List.getElem?_eq_none (by omega)]; exact ⟨Int.le_refl _, by decide⟩
theorem bits_or_u8 (x y : Int) : Go.bits .or .u8 x y = ((BitVec.ofInt 8 x ||| BitVec.ofInt 8 y).toNat : Int) := by
  unfold Go.bits
  have := (BitVec.ofInt 8 x ||| BitVec.ofInt 8 y).isLt
  show IntKind.u8.wrap _ = _
  rw [IntKind.wrap_u8]
  show (((BitVec.ofInt 8 x ||| BitVec.ofInt 8 y).toNat : Int)) % 256 = _
  omega
theorem bits_or_digit {v : Int} {y : Nat} (hv : 0 ≤ v ∧ v < 256) (hy : y < 8) : Go.bits .or .u8 v (2 ^ min y 8 % 256) = ((v.toNat ||| 2 ^ y : Nat) : Int) := by
  have h2 : (2 : Nat) ^ y < 256 := by
    have := Nat.pow_lt_pow_right (a := 2) (by decide) hy
    omega
  have e1 : ((2 : Int) ^ min y 8 % 256) = ((2 ^ y : Nat) : Int) := by
    rw [Nat.min_eq_left (by omega)]
    have e2 : ((2 : Int) ^ y) = ((2 ^ y : Nat) : Int) := by simp
    rw [e2]
    generalize (2 : Nat) ^ y = z at h2 ⊢
    omega
  rw [e1, bits_or_u8, BitVec.toNat_or, BitVec.toNat_ofInt, BitVec.toNat_ofInt]
  congr 2 <;> omega

set_option maxHeartbeats 2000000 in
set_option maxRecDepth 100000 in
theorem add_calls (g b : Nat) (h : Int) (l : List Int) (A0 : Option Addr) (c0 : Nat) (key : List Int) (w : World) (hF : Flt w g b h l) (hh : 1 ≤ h) (hh2 : h ≤ 9223372036854775807) (hl1 : 1 ≤ l.length) (hl2 : l.length ≤ 8192) (hB : IsB l)
    (hr : Kd.C (Kd.int .u8) w A0 key.length key) (hc0 : key.length ≤ c0) :
    Calls Try.prog 13 #[ptr g, .slice A0 key.length c0] w fun e w' => e = .returned (.int .i64 0) ∧ Flt w' g b h (addS l (plcK l.length h key)) ∧ w.grownBy w' (some b) := by
  have HF := Aside0.mk hF
  have HH := Aside0.mk hh
  have HH2 := Aside0.mk hh2
  have HL1 := Aside0.mk hl1
  have HL2 := Aside0.mk hl2
  have HBY := Aside0.mk hB
  have HR0 := Aside0.mk hr
  have HC0 := Aside0.mk hc0
  clear hF hh hh2 hl1 hl2 hB hr hc0
  refine (callsIn_wide (n := 8)).1 ?_
  refine callsIn_of_wp_marks Try.func13 rfl trivial ?_ rfl
  simp only [Try.ntmps13, List.size_toArray, List.length_cons, List.length_nil, Nat.reduceAdd, Nat.reduceSub, Array.replicate_succ, Array.replicate_zero, List.push_toArray, List.append_toArray, List.nil_append, List.cons_append]
  gi_wp2_with (first
    | (refine ⟨trivial, ?_⟩; gi_at_call 24; refine (callsIn_wide.2 (made_calls g b h l _ (HF.out.below (((Below.refl _ w).alloc (Nat.le_refl _) _))) HH.out)).mono ?_; rintro e w' ⟨rfl, ⟨m1, rfl⟩⟩)
    | (refine ⟨trivial, ?_⟩; gi_at_call 25; refine (callsIn_wide.2 (places_calls g b h l A0 c0 key _ ?s1 HC0.out)).mono ?_; (case s1 => exact Kd.C_drewN (Kd.C_alloc HR0.out _) _); rintro e W0 ⟨rfl, z1, z2, z3, z4, z5⟩))
  have hs : ((w.alloc (.cells #[ptr g] 24)).drewN m1).heap.size = w.heap.size + 1 := by simp
  have hI0 : AddI w g b h l (kA key) (kB key) 0 0 W0 := by
    have hX : Below w.heap.size w ((w.alloc (.cells #[ptr g] 24)).drewN m1) := below_drewN ((Below.refl _ w).alloc (Nat.le_refl _) _) _
    have hf := boxed_drewN (Boxed.new w 24 (ptr g)) m1
    have hy := hX.trans (z5.mono (by rw [hs]; omega))
    rw [hs] at z1 z2 z3
    exact ⟨boxed_below hf z5, z1, z2, z3, HF.out.below hy, ⟨hy.os, hy.tape, hy.output, hy.size, fun k hk _ => hy.block k hk⟩, HF.out.gt, HF.out.btlt⟩
  have hsz : W0.heap.size = w.heap.size + 5 := by rw [z4, hs]
  have HI0 := Aside0.mk hI0
  clear z1 z2 z3 z4 z5 hI0 hs
  refine wpIn_rangeFunc_Z rfl (by omega) (gf := 29) (lb := #[ptr (w.heap.size + 1), ptr (w.heap.size + 2), ptr (w.heap.size + 4)]) rfl trivial (enters_of Try.func29 (by kernel_rfl) rfl)
    (N := AddI w g b h l (kA key) (kB key) h.toNat h.toNat) (X := fun _ _ => False) ?call ?done ?stop
  case stop => intro W o c _ _ h; exact h.elim
  case call =>
    intro fn rec hfn hrec W1 hW1 hR
    rw [hsz] at hrec hR ⊢
    have hb1 : Below W0.heap.size W0 W1 := by rw [hW1]; exact ((Below.refl _ W0).alloc (Nat.le_refl _) _).alloc (by simp) _
    refine (places1_in (8 - 1) (by omega) (w.heap.size + 5 + 1) (w.heap.size + 1) (w.heap.size + 2) (w.heap.size + 4) g b h HH.out HH2.out l.length HL1.out HL2.out (kA key) (kB key) (kA_range key)
      (fun i W => AddI w g b h l (kA key) (kB key) i i W ∧ Rdy rec (w.heap.size + 5) W) (fun i W => AddI w g b h l (kA key) (kB key) i (i + 1) W ∧ Rdy rec (w.heap.size + 5) W) (fun _ => False)
      ?r1 ?r2 ?r3 ?r4 ?hY W1 ⟨HI0.out.below hb1, hR⟩).mono ?_
    case r1 => intro i W hj; exact ⟨hj.1.pf, hj.1.pa, by have := hj.1.fl.bits; rwa [addS_length] at this, hj.1.fl.hashes⟩
    case r2 => intro i W hj; exact ⟨hj.1.pa, hj.1.pb⟩
    case r3 => intro i W hj; exact ⟨hj.1.next, hj.2.set (by simp)⟩
    case r4 => intro i W hj; exact ⟨hj.1.below (Below.refl _ _).drew, hj.2.below (Below.refl _ _).drew⟩
    case hY =>
      intro i Wb hlt hI
      obtain ⟨hI, hRb⟩ := hI
      refine YieldAt.mono (yieldAt_of_body hrec hfn rfl hRb (R1 := fun W' => AddI w g b h l (kA key) (kB key) i (i + 1) W') (R2 := fun _ _ => False) ?_) ?_
      · apply Exists.intro
        constructor
        · intro K hK
          gi_wp2
          exact hK
        intro W2 hW2
        obtain ⟨hl1, hl2⟩ := hRb
        have q0 := hI.put hl1 rfl (by omega) (.loop { rec .ready none with state := .busy })
        rw [← hW2] at q0
        have q7 : W2.heap[w.heap.size + 5 + 1]? = some (.loop { rec .ready none with state := .busy }) := by rw [hW2]; exact World.putObj_heap_same (Array.getElem?_eq_some_iff.1 hl1).1
        have Q7 := Aside0.mk q7
        clear q7
        have hb := q0.bf.cell
        have hc := q0.fl.bits
        rw [addS_length] at hc
        obtain ⟨p, hp⟩ : ∃ p, aAt (kB key) i (kA key) % (8 * (l.length : Int)) = p := ⟨_, rfl⟩
        have hp0 : 0 ≤ p ∧ p < 8 * (l.length : Int) := by
          have := HL1.out
          rw [← hp]
          exact ⟨Int.emod_nonneg _ (by omega), Int.emod_lt_of_pos _ (by omega)⟩
        rw [hp]
        obtain ⟨x, hx⟩ : ∃ x : Nat, (p / 8).toNat = x := ⟨_, rfl⟩
        obtain ⟨y, hy⟩ : ∃ y : Nat, (p % 8).toNat = y := ⟨_, rfl⟩
        have hxl : x < l.length := by omega
        have hat := q0.fl.at_ (i := x) (by rw [addS_length]; exact hxl)
        have hfz := q0.fl.froz x
        obtain ⟨v, hv⟩ : ∃ v, (addS l (plc (8 * l.length) (kB key) i (kA key))).getD x 0 = v := ⟨_, rfl⟩
        rw [hv] at hat
        have w1 : IntKind.u32.wrap (Int.tdiv p 8) = (x : Int) := by rw [Int.tdiv_eq_ediv_of_nonneg hp0.1, IntKind.wrap_u32]; have := HL2.out; omega
        have w2 : Int.tmod p 8 = (y : Int) := by rw [Int.tmod_eq_emod_of_nonneg hp0.1]; omega
        have i1 : (0 ≤ (x : Int)) = True := eq_true (by omega)
        have i2 : ((x : Int) < (l.length : Int)) = True := eq_true (by omega)
        have i3 : (x < l.length) = True := eq_true hxl
        have i4 : ((x : Int)).toNat = x := by omega
        have Q0 := Aside0.mk q0
        have HX := Aside0.mk hx
        have HYY := Aside0.mk hy
        have HV := Aside0.mk hv
        have HP := Aside0.mk hp
        have HP0 := Aside0.mk hp0
        clear hx hy hv hp hp0 q0 hl1 hl2 hxl hI hW2 hlt
        gi_wp2
        have hv0 := (addS_bytes HBY.out (ps := plc (8 * l.length) (kB key) i (kA key))).getD x
        rw [HV.out] at hv0
        have hyb : y < 8 := by have := HYY.out; have := HP0.out; omega
        obtain ⟨s1, s2⟩ := Q0.out.store x (Go.bits .or .u8 v (2 ^ min y 8 % 256)) (by rw [HP.out]; exact HX.out.symm) (by rw [HP.out, HYY.out, HV.out]; exact bits_or_digit hv0 hyb)
        refine ⟨⟨s1 _ (by omega), s1 _ (by omega)⟩, s2.put ((s1 _ (by omega)).trans Q7.out) rfl (by omega) _⟩
      · rintro e W' (⟨he, hr, hi⟩ | ⟨_, _, _, hf⟩)
        · exact ⟨true, he, .inl ⟨rfl, hi, hr⟩⟩
        · exact hf.elim
    rintro e W' ⟨hv, hj | hf⟩
    · exact ⟨hv, .inl ⟨hj.2, hj.1⟩⟩
    · exact hf.elim
  case done =>
    intro W o hlt hnc hI hD
    rw [hsz] at hlt hnc hD ⊢
    obtain ⟨o0, ho0, hoc⟩ := hnc
    have hq := hI.put ho0 hoc (by omega) o
    have HQ := Aside0.mk hq
    generalize W.putObj (w.heap.size + 5 + 1) o = WX at hD HQ ⊢
    clear hI hq ho0 hoc hlt
    gi_wp2
    refine ⟨by simp, .inl ⟨_, _, rfl, run_takeDeferred (by first | exact hD | simpa using hD), ?_⟩⟩
    have hq := HQ.out.put hD rfl (by omega) (.deferred none)
    refine ⟨_, results_tmp rfl _ _ _, rfl, hq.fl, hq.gr⟩

end Go.Proofs.Ytliafeandefocaa.P
