/- bloom's May, by its places' iterator. No conditions. -/
import Derived.Test.YtliafeandefocaaBloomA
namespace Go.Proofs.Ytliafeandefocaa.P
open Go.RowKit Go.Proofs.YtliafeandefocaaW.PrintWords Go.Proofs.YtliafeandefocaaW.PrintLast Go.Proofs.YtliafeandefocaaW.PrintMore
set_option linter.unusedVariables false
set_option linter.unusedSimpArgs false
attribute [local go_sem] Oper.semAt_some

/-- What stands between two rounds of May: the iterator's number is the i-th. -/
structure MayI (w : World) (g b : Nat) (h : Int) (l : List Int) (a0 B : Int) (i : Nat) (W : World) : Prop where
  bf : Boxed W w.heap.size 24 (ptr g)
  rs : Boxed W (w.heap.size + 1) 4 (.bool false)
  pf : Boxed W (w.heap.size + 2) 24 (ptr g)
  pa : Boxed W (w.heap.size + 3) 54 (.int .u32 (aAt B i a0))
  pb : Boxed W (w.heap.size + 5) 54 (.int .u32 B)
  fl : Flt W g b h l
  gr : Below w.heap.size w W
  gl : g < w.heap.size
  bl : b < w.heap.size

section
variable {w A C : World} {g b : Nat} {h : Int} {l : List Int} {a0 B : Int} {i j : Nat}
theorem MayI.below (H : MayI w g b h l a0 B i A) (hb : Below A.heap.size A C) : MayI w g b h l a0 B i C :=
  ⟨boxed_below H.bf hb, boxed_below H.rs hb, boxed_below H.pf hb, boxed_below H.pa hb, boxed_below H.pb hb, H.fl.below hb, H.gr.trans (hb.mono H.gr.size), H.gl, H.bl⟩
theorem MayI.put {k : Nat} {o : Obj} (H : MayI w g b h l a0 B i A) (hl : A.heap[k]? = some o) (ho : o.isCells = false) (hk : w.heap.size ≤ k) (o' : Obj) : MayI w g b h l a0 B i (A.putObj k o') := by
  refine ⟨boxed_putObj H.bf hl ho _, boxed_putObj H.rs hl ho _, boxed_putObj H.pf hl ho _, boxed_putObj H.pa hl ho _, boxed_putObj H.pb hl ho _, H.fl.keep ?_ ?_, below_putObj H.gr hk (Array.getElem?_eq_some_iff.1 hl).1 _, H.gl, H.bl⟩
  · exact World.putObj_heap_other (by have := H.gl; omega)
  · exact World.putObj_heap_other (by have := H.bl; omega)
/-- The iterator's own store. -/
theorem MayI.next (H : MayI w g b h l a0 B i A) : MayI w g b h l a0 B (i + 1) (A.setCell ⟨w.heap.size + 3, 0, none⟩ (.int .u32 (aAt B (i + 1) a0))) := by
  have hgl := H.gl
  have hbl := H.bl
  exact ⟨boxed_far H.bf (by simp) _, boxed_far H.rs (by simp) _, boxed_far H.pf (by simp) _, H.pa.set _, boxed_far H.pb (by simp) _, H.fl.keep (Below.heap_setCell _ _ _ _ (by simp; omega)) (Below.heap_setCell _ _ _ _ (by simp; omega)), H.gr.setCell (by simp) _, hgl, hbl⟩
end

theorem mayS_snoc (l : List Int) (n8 B : Int) (i : Nat) (a : Int) : mayS l (plc n8 B (i + 1) a) = (mayS l (plc n8 B i a) && bitAt l (aAt B i a % n8)) := by
  rw [plc_snoc, mayS, mayS, List.all_append]; simp
theorem plc_mem (n8 B a : Int) : ∀ (k i : Nat), i < k → aAt B i a % n8 ∈ plc n8 B k a := by
  intro k
  induction k with
  | zero => intro i h; omega
  | succ k ih =>
    intro i h
    rw [plc_snoc, List.mem_append]
    by_cases hk : i = k
    · right; rw [hk]; simp
    · left; exact ih i (by omega)
theorem mayS_no {l : List Int} {n8 B a : Int} {k i : Nat} (hi : i < k) (h : bitAt l (aAt B i a % n8) = false) : mayS l (plc n8 B k a) = false := by
  rw [mayS, List.all_eq_false]
  exact ⟨_, plc_mem n8 B a k i hi, by simp [h]⟩

theorem bits_and_u8 (x y : Int) : Go.bits .and .u8 x y = ((BitVec.ofInt 8 x &&& BitVec.ofInt 8 y).toNat : Int) := by
  unfold Go.bits
  have := (BitVec.ofInt 8 x &&& BitVec.ofInt 8 y).isLt
  show IntKind.u8.wrap _ = _
  rw [IntKind.wrap_u8]
  show (((BitVec.ofInt 8 x &&& BitVec.ofInt 8 y).toNat : Int)) % 256 = _
  omega
theorem bits_and_digit {v : Int} {y : Nat} (hv : 0 ≤ v ∧ v < 256) (hy : y < 8) : Go.bits .and .u8 (v / 2 ^ min y 8) 1 = if v.toNat.testBit y then 1 else 0 := by
  obtain ⟨n, rfl⟩ : ∃ n : Nat, v = n := ⟨v.toNat, by omega⟩
  have e1 : ((n : Int) / 2 ^ min y 8) = ((n / 2 ^ y : Nat) : Int) := by
    rw [Nat.min_eq_left (by omega)]
    have e2 : ((2 : Int) ^ y) = ((2 ^ y : Nat) : Int) := by simp
    rw [e2]; simp
  have hlt : n / 2 ^ y < 256 := Nat.lt_of_le_of_lt (Nat.div_le_self _ _) (by omega)
  rw [e1, bits_and_u8, BitVec.toNat_and, BitVec.toNat_ofInt, BitVec.toNat_ofInt, Int.toNat_natCast, Nat.testBit_eq_decide_div_mod_eq]
  generalize n / 2 ^ y = m at hlt ⊢
  have e3 : ((m : Int) % ((2 ^ 8 : Nat) : Int)).toNat = m := by omega
  have e4 : ((1 : Int) % ((2 ^ 8 : Nat) : Int)).toNat = 1 := by decide
  rw [e3, e4, Nat.and_one_is_mod]
  by_cases h : m % 2 = 1
  · simp [h]
  · have : m % 2 = 0 := by omega
    simp [this]
theorem results_cell1 {P : Program} {fn : Func} {p : Tmp} {ty : TypeId} (h : fn.results = #[.cell p ty]) (tmps : Array Value) (w : World) (g : Nat) (v : Value)
    (hp : tmps.getD p undef = .pointer (some ⟨g, 0, none⟩)) (hc : w.cell? ⟨g, 0, none⟩ = some v) (hu : P.underlying ty = some .bool) : (results fn tmps).run P w = .ok v w := by
  have hp' : tmps[p]?.getD undef = .pointer (some ⟨g, 0, none⟩) := by simpa using hp
  simp [results, h, hp', asAddr, loadVar, isAgg, run_underlying hu, hc]

set_option maxHeartbeats 2000000 in
set_option maxRecDepth 100000 in
theorem may_calls (g b : Nat) (h : Int) (l : List Int) (A0 : Option Addr) (c0 : Nat) (key : List Int) (w : World) (hF : Flt w g b h l) (hh : 1 ≤ h) (hh2 : h ≤ 9223372036854775807) (hl1 : 1 ≤ l.length) (hl2 : l.length ≤ 8192) (hB : IsB l)
    (hr : Kd.C (Kd.int .u8) w A0 key.length key) (hc0 : key.length ≤ c0) :
    Calls Try.prog 14 #[ptr g, .slice A0 key.length c0] w fun e w' => e = .returned (.bool (mayS l (plcK l.length h key))) ∧ Below w.heap.size w w' := by
  have HF := Aside0.mk hF
  have HH := Aside0.mk hh
  have HH2 := Aside0.mk hh2
  have HL1 := Aside0.mk hl1
  have HL2 := Aside0.mk hl2
  have HBY := Aside0.mk hB
  have HR0 := Aside0.mk hr
  have HC0 := Aside0.mk hc0
  clear hF hh hh2 hl1 hl2 hB hr hc0
  refine (callsIn_wide (n := 8)).1 ?_
  refine callsIn_of_wp_marks Try.func14 rfl trivial ?_ rfl
  simp only [Try.ntmps14, List.size_toArray, List.length_cons, List.length_nil, Nat.reduceAdd, Nat.reduceSub, Array.replicate_succ, Array.replicate_zero, List.push_toArray, List.append_toArray, List.nil_append, List.cons_append]
  gi_wp2_with (first
    | (refine ⟨trivial, ?_⟩; gi_at_call 24; refine (callsIn_wide.2 (made_calls g b h l _ (HF.out.below ((((Below.refl _ w).alloc (Nat.le_refl _) _)).alloc (by simp) _)) HH.out)).mono ?_; rintro e w' ⟨rfl, ⟨m1, rfl⟩⟩)
    | (refine ⟨trivial, ?_⟩; gi_at_call 25; refine (callsIn_wide.2 (places_calls g b h l A0 c0 key _ ?s1 HC0.out)).mono ?_; (case s1 => exact Kd.C_drewN (Kd.C_alloc (Kd.C_alloc HR0.out _) _) _); rintro e W0 ⟨rfl, z1, z2, z3, z4, z5⟩))
  have hs : (((w.alloc (.cells #[ptr g] 24)).alloc (.cells #[.bool false] 4)).drewN m1).heap.size = w.heap.size + 2 := by simp
  have hI0 : MayI w g b h l (kA key) (kB key) 0 W0 := by
    have hX : Below w.heap.size w (((w.alloc (.cells #[ptr g] 24)).alloc (.cells #[.bool false] 4)).drewN m1) := below_drewN (((Below.refl _ w).alloc (Nat.le_refl _) _).alloc (by simp) _) _
    have hf := boxed_drewN ((Boxed.new w 24 (ptr g)).alloc (.cells #[.bool false] 4)) m1
    have hf2 := Boxed.new (w.alloc (.cells #[ptr g] 24)) 4 (.bool false)
    rw [World.size_alloc] at hf2
    have hf3 := boxed_drewN hf2 m1
    have hy := hX.trans (z5.mono (by rw [hs]; omega))
    rw [hs] at z1 z2 z3
    exact ⟨boxed_below hf z5, boxed_below hf3 z5, z1, z2, z3, HF.out.below hy, hy, HF.out.gt, HF.out.btlt⟩
  have hsz : W0.heap.size = w.heap.size + 6 := by rw [z4, hs]
  have HI0 := Aside0.mk hI0
  clear z1 z2 z3 z4 z5 hI0 hs
  refine wpIn_rangeFunc_Z rfl (by omega) (gf := 29) (lb := #[ptr (w.heap.size + 2), ptr (w.heap.size + 3), ptr (w.heap.size + 5)]) rfl trivial (enters_of Try.func29 (by kernel_rfl) rfl)
    (N := fun W => MayI w g b h l (kA key) (kB key) h.toNat W ∧ mayS l (plc (8 * l.length) (kB key) h.toNat (kA key)) = true)
    (X := fun c W => c = .ret ∧ Boxed W (w.heap.size + 1) 4 (.bool false) ∧ Below w.heap.size w W ∧ mayS l (plc (8 * l.length) (kB key) h.toNat (kA key)) = false) ?call ?done ?stop
  case call =>
    intro fn rec hfn hrec W1 hW1 hR
    rw [hsz] at hrec hR ⊢
    have hb1 : Below W0.heap.size W0 W1 := by rw [hW1]; exact ((Below.refl _ W0).alloc (Nat.le_refl _) _).alloc (by simp) _
    refine (places1_in (8 - 1) (by omega) (w.heap.size + 6 + 1) (w.heap.size + 2) (w.heap.size + 3) (w.heap.size + 5) g b h HH.out HH2.out l.length HL1.out HL2.out (kA key) (kB key) (kA_range key)
      (fun i W => (MayI w g b h l (kA key) (kB key) i W ∧ mayS l (plc (8 * l.length) (kB key) i (kA key)) = true) ∧ Rdy rec (w.heap.size + 6) W) (fun i W => (MayI w g b h l (kA key) (kB key) i W ∧ mayS l (plc (8 * l.length) (kB key) (i + 1) (kA key)) = true) ∧ Rdy rec (w.heap.size + 6) W)
      (fun W => ∃ c, Dn rec (w.heap.size + 6) c W ∧ c = .ret ∧ Boxed W (w.heap.size + 1) 4 (.bool false) ∧ Below w.heap.size w W ∧ mayS l (plc (8 * l.length) (kB key) h.toNat (kA key)) = false)
      ?r1 ?r2 ?r3 ?r4 ?hY W1 ⟨⟨HI0.out.below hb1, rfl⟩, hR⟩).mono ?_
    case r1 => intro i W hj; exact ⟨hj.1.1.pf, hj.1.1.pa, hj.1.1.fl.bits, hj.1.1.fl.hashes⟩
    case r2 => intro i W hj; exact ⟨hj.1.1.pa, hj.1.1.pb⟩
    case r3 => intro i W hj; exact ⟨⟨hj.1.1.next, hj.1.2⟩, hj.2.set (by simp)⟩
    case r4 => intro i W hj; exact ⟨⟨hj.1.1.below (Below.refl _ _).drew, hj.1.2⟩, hj.2.below (Below.refl _ _).drew⟩
    case hY =>
      intro i Wb hlt hI
      obtain ⟨⟨hI, hM⟩, hRb⟩ := hI
      refine YieldAt.mono (yieldAt_of_body hrec hfn rfl hRb (R1 := fun W' => MayI w g b h l (kA key) (kB key) i W' ∧ mayS l (plc (8 * l.length) (kB key) (i + 1) (kA key)) = true)
        (R2 := fun c W => c = .ret ∧ Boxed W (w.heap.size + 1) 4 (.bool false) ∧ Below w.heap.size w W ∧ mayS l (plc (8 * l.length) (kB key) h.toNat (kA key)) = false) ?_) ?_
      · apply Exists.intro
        constructor
        · intro K hK
          gi_wp2
          exact hK
        intro W2 hW2
        obtain ⟨hl1, hl2⟩ := hRb
        have q0 := hI.put hl1 rfl (by omega) (.loop { rec .ready none with state := .busy })
        rw [← hW2] at q0
        have q7 : W2.heap[w.heap.size + 6 + 1]? = some (.loop { rec .ready none with state := .busy }) := by rw [hW2]; exact World.putObj_heap_same (Array.getElem?_eq_some_iff.1 hl1).1
        have Q7 := Aside0.mk q7
        clear q7
        have hb := q0.bf.cell
        have hc := q0.fl.bits
        have hrf := q0.rs.frozen
        have hrc := q0.rs.cell
        obtain ⟨p, hp⟩ : ∃ p, aAt (kB key) i (kA key) % (8 * (l.length : Int)) = p := ⟨_, rfl⟩
        have hp0 : 0 ≤ p ∧ p < 8 * (l.length : Int) := by
          have := HL1.out
          rw [← hp]
          exact ⟨Int.emod_nonneg _ (by omega), Int.emod_lt_of_pos _ (by omega)⟩
        rw [hp]
        obtain ⟨x, hx⟩ : ∃ x : Nat, (p / 8).toNat = x := ⟨_, rfl⟩
        obtain ⟨y, hy⟩ : ∃ y : Nat, (p % 8).toNat = y := ⟨_, rfl⟩
        have hxl : x < l.length := by omega
        have hat := q0.fl.at_ (i := x) hxl
        obtain ⟨v, hv⟩ : ∃ v, l.getD x 0 = v := ⟨_, rfl⟩
        rw [hv] at hat
        have w1 : IntKind.u32.wrap (Int.tdiv p 8) = (x : Int) := by rw [Int.tdiv_eq_ediv_of_nonneg hp0.1, IntKind.wrap_u32]; have := HL2.out; omega
        have w2 : Int.tmod p 8 = (y : Int) := by rw [Int.tmod_eq_emod_of_nonneg hp0.1]; omega
        have i1 : (0 ≤ (x : Int)) = True := eq_true (by omega)
        have i2 : ((x : Int) < (l.length : Int)) = True := eq_true (by omega)
        have i3 : (x < l.length) = True := eq_true hxl
        have i4 : ((x : Int)).toNat = x := by omega
        have hba : bitAt l p = v.toNat.testBit y := by unfold bitAt; rw [hx, hy, hv]
        have HBA := Aside0.mk hba
        have Q0 := Aside0.mk q0
        have HX := Aside0.mk hx
        have HYY := Aside0.mk hy
        have HV := Aside0.mk hv
        have HP := Aside0.mk hp
        have HP0 := Aside0.mk hp0
        have HM := Aside0.mk hM
        have HLT := Aside0.mk hlt
        clear hx hy hv hp hp0 q0 hl1 hl2 hxl hI hW2 hlt hba hM
        have hv0 := HBY.out.getD x
        rw [HV.out] at hv0
        have hyb : y < 8 := by have := HYY.out; have := HP0.out; omega
        have hand := bits_and_digit hv0 hyb
        have HHAND := Aside0.mk hand
        clear hand hv0 hyb
        cases htb : v.toNat.testBit y with
        | true =>
          have hand : Go.bits .and .u8 (v / 2 ^ min y 8) 1 = 1 := by rw [HHAND.out, htb]; rfl
          have HTB := Aside0.mk htb
          clear htb
          gi_wp2
          refine ⟨⟨rfl, rfl⟩, Q0.out.put Q7.out rfl (by omega) _, ?_⟩
          rw [mayS_snoc, HM.out, HP.out, HBA.out, HTB.out]; rfl
        | false =>
          have hand : Go.bits .and .u8 (v / 2 ^ min y 8) 1 = 0 := by rw [HHAND.out, htb]; rfl
          have HTB := Aside0.mk htb
          clear htb
          gi_wp2
          have hh0 := HH.out
          refine ⟨⟨Below.heap_setCell _ _ _ _ (by simp <;> omega), Below.heap_setCell _ _ _ _ (by simp <;> omega)⟩, rfl, ?_, ?_, mayS_no (i := i) (by have := HLT.out; omega) (by rw [HP.out, HBA.out, HTB.out])⟩
          · exact boxed_putObj (Q0.out.rs.set _) ((Below.heap_setCell _ _ _ _ (by simp <;> omega)).trans Q7.out) rfl _
          · exact below_putObj (Q0.out.gr.setCell (by simp) _) (by omega) (by have := (Array.getElem?_eq_some_iff.1 Q7.out).1; simpa [World.setCell] using this) _
      · rintro e W' (⟨he, hr, hi⟩ | ⟨he, hf⟩)
        · exact ⟨true, he, .inl ⟨rfl, hi, hr⟩⟩
        · exact ⟨false, he, .inr ⟨rfl, hf⟩⟩
    rintro e W' ⟨hv, hj | hf⟩
    · exact ⟨hv, .inl ⟨hj.2, hj.1⟩⟩
    · exact ⟨hv, .inr hf⟩
  case stop =>
    intro W o c hlt hnc hX hD
    obtain ⟨rfl, h1, h2, h3⟩ := hX
    rw [hsz] at hlt hnc hD ⊢
    obtain ⟨o0, ho0, hoc⟩ := hnc
    have hq := boxed_putObj h1 ho0 hoc o
    have hq2 := below_putObj h2 (by omega) (Array.getElem?_eq_some_iff.1 ho0).1 o
    have HQ := Aside0.mk hq
    have HQ2 := Aside0.mk hq2
    have H3 := Aside0.mk h3
    generalize W.putObj (w.heap.size + 6 + 1) o = WX at hD HQ HQ2 ⊢
    clear h1 h2 h3 hq hq2 ho0 hoc hlt
    gi_wp2
    refine ⟨by simp, .inl ⟨_, _, rfl, run_takeDeferred (by first | exact hD | simpa using hD), ?_⟩⟩
    have hz := boxed_putObj HQ.out hD rfl (.deferred none)
    have hz2 := below_putObj HQ2.out (by omega) (Array.getElem?_eq_some_iff.1 hD).1 (.deferred none)
    refine ⟨_, results_cell1 rfl _ _ _ _ rfl hz.cell Try.underlying4, ?_, hz2⟩
    rw [plcK, H3.out]
  case done =>
    intro W o hlt hnc hI hD
    obtain ⟨hI, h3⟩ := hI
    rw [hsz] at hlt hnc hD ⊢
    obtain ⟨o0, ho0, hoc⟩ := hnc
    have hq := hI.put ho0 hoc (by omega) o
    have HQ := Aside0.mk hq
    have H3 := Aside0.mk h3
    have hfz := hq.rs.frozen
    have hfc := hq.rs.cell
    generalize W.putObj (w.heap.size + 6 + 1) o = WX at hD HQ hfz hfc ⊢
    clear hI h3 hq ho0 hoc hlt
    gi_wp2
    have hD2 : (WX.setCell ⟨w.heap.size + 1, 0, none⟩ (.bool true)).heap[w.heap.size + 6]? = some (.deferred (some [])) := (Below.heap_setCell _ _ _ _ (by simp)).trans hD
    refine ⟨by simp, .inl ⟨_, _, rfl, run_takeDeferred hD2, ?_⟩⟩
    have hz := boxed_putObj (HQ.out.rs.set (.bool true)) hD2 rfl (.deferred none)
    have hz2 := below_putObj (HQ.out.gr.setCell (p := ⟨w.heap.size + 1, 0, none⟩) (by simp) (.bool true)) (by omega) (Array.getElem?_eq_some_iff.1 hD2).1 (.deferred none)
    refine ⟨_, results_cell1 rfl _ _ _ _ rfl hz.cell Try.underlying4, ?_, hz2⟩
    rw [plcK, H3.out]

end Go.Proofs.Ytliafeandefocaa.P
