/- rickyardref09.Read: any bytes are a row's, or not. Conditions: the bytes are bytes. -/
import Derived.Test.YticddiiigfkamaaBkThree
import Derived.Test.YticddiiigfkamaaBkRefWrite
import Derived.Test.YticddiiigfkamaaBkRead
import Derived.Test.YticddiiigfkamaaCmpOrd
import Derived.Test.YticddiiigfkamaaPrickyardref05Copy
namespace Go.Proofs.Yticddiiigfkamaa.P
open Go.RowKit Go.Proofs.YticddiiigfkamaaW.PrintWords Go.Proofs.YticddiiigfkamaaW.PrintLast Go.Proofs.YticddiiigfkamaaW.PrintMore
set_option linter.unusedVariables false
set_option linter.unusedSimpArgs false

def to47 (p : Pr) : Pq := ⟨p.f0, p.f1⟩
theorem to47_back (l : List Pr) : rickyardref09_Write.f (l.map to47) = block_Write.f l := by
  unfold rickyardref09_Write.f
  rw [List.map_map]
  congr 1
  exact List.map_id'' (fun _ => rfl) l
/-- A pair whose key and value are apart. -/
def kB : Kd Pq where
  sz := k47.sz
  E := k47.E
  K := k47.K
  M := fun w base ok x cs => k47.M w base ok x cs ∧ aptC cs
  K_len := k47.K_len
  K_one := k47.K_one
  K_below := k47.K_below
  K_of_M := fun h => k47.K_of_M h.1
  M_mono := fun hok h => ⟨k47.M_mono hok h.1, h.2⟩
  M_bound := fun h => ⟨k47.M_bound h.1, h.2⟩
  M_move := fun hm h => ⟨k47.M_move hm h.1, h.2⟩
  M_lower := fun hb h => ⟨k47.M_lower hb h.1, h.2⟩
theorem S_of_B {e : Nat} {w : World} {base : Nat} {ok : Nat → Prop} {v : Value} {xs : List Pq} (h : Kd.S kB e w base ok v xs) : Kd.S k47 e w base ok v xs := by
  obtain ⟨f, h0, h1⟩ := h
  exact ⟨f, h0, h1.imp_ (fun _ _ hp => hp.1)⟩
def rrP (last b' : List Int) (n0 n1 n2 : Nat) : Pr := ⟨last.take n0 ++ b'.take n1, (b'.take (n1 + n2)).drop n1⟩
/-- The pairs that the document reads, before it writes them anew. -/
def rr : Nat → List Int → List Int → List Pr → Option (List Pr)
  | 0, _, _, _ => none
  | k + 1, left, last, out => if left.length = 0 then some out else if 4096 < out.length then some out else
    match rdK 3 left with
    | some ([n0, n1, n2], b') => if last.length < n0 then none else if b'.length < n1 then none else if b'.length - n1 < n2 then none else rr k (b'.drop (n1 + n2)) (last.take n0 ++ b'.take n1) (out ++ [rrP last b' n0 n1 n2])
    | _ => none
theorem rr_fuel : ∀ (k k' : Nat) (b : List Int) (last : List Int) (out : List Pr), (∀ x ∈ b, 0 ≤ x ∧ x < 256) → b.length < k → b.length < k' → rr k b last out = rr k' b last out
  | 0, _, _, _, _, _, h, _ => absurd h (Nat.not_lt_zero _)
  | _, 0, _, _, _, _, _, h => absurd h (Nat.not_lt_zero _)
  | k + 1, k' + 1, b, last, out, hB, h1, h2 => by
    rw [rr, rr]
    by_cases h0 : b.length = 0
    · rw [if_pos h0, if_pos h0]
    rw [if_neg h0, if_neg h0]
    by_cases h4 : 4096 < out.length
    · rw [if_pos h4, if_pos h4]
    rw [if_neg h4, if_neg h4]
    cases hr : rdK 3 b with
    | none => rfl
    | some q =>
      obtain ⟨ns, b'⟩ := q
      have hlen := rdK_len hB hr
      have hB' : ∀ x ∈ b', 0 ≤ x ∧ x < 256 := fun x hx => hB x (rdK_mem hr x hx)
      split
      · next n0 n1 n2 b2 heq =>
        simp only [Option.some.injEq, Prod.mk.injEq] at heq
        obtain ⟨_, rfl⟩ := heq
        rw [rr_fuel k k' (b'.drop (n1 + n2)) _ _ (fun x hx => hB' x (List.mem_of_mem_drop hx)) (by rw [List.length_drop]; omega) (by rw [List.length_drop]; omega)]
      · rfl
def refRdS (b : List Int) : List Pr × Int :=
  match rr (b.length + 1) b [] [] with
  | none => ([], 60)
  | some l => match block_Write.f l with
    | some (w, e) => if e = 0 then (if cmpI w b = 0 then (l, 0) else ([], 60)) else ([], 60)
    | none => ([], 60)
def rickyardref09_Read.f (b : List Int) : Option (List Pq × Int) := if (∀ x ∈ b, 0 ≤ x ∧ x < 256) then some ((refRdS b).1.map to47, (refRdS b).2) else none
theorem rdK_ns : ∀ {k : Nat} {b b' : List Int} {ns : List Nat}, rdK k b = some (ns, b') → ns.length = k
  | 0, b, b', ns, h => by
    rw [rdK] at h
    simp only [Option.some.injEq, Prod.mk.injEq] at h
    obtain ⟨rfl, _⟩ := h
    rfl
  | k + 1, b, b', ns, h => by
    rw [rdK] at h
    cases h1 : rdK k b with
    | none => rw [h1] at h; cases h
    | some p =>
      obtain ⟨ns1, b1⟩ := p
      rw [h1] at h
      simp only [] at h
      cases h2 : rs b1 with
      | none => rw [h2] at h; cases h
      | some q =>
        obtain ⟨n, u⟩ := q
        rw [h2] at h
        simp only [Option.some.injEq, Prod.mk.injEq] at h
        obtain ⟨rfl, _⟩ := h
        rw [List.length_append, rdK_ns h1]; rfl
set_option maxHeartbeats 8000000 in
set_option maxRecDepth 100000 in
theorem rickyardref09_Read.callsB (A : Option Addr) (c : Nat) (b : List Int) (r1 : List Pq) (r2 : Int) (w : World) (hr0 : Kd.C (Kd.int .u8) w A b.length b) (hc0 : b.length ≤ c) (h : rickyardref09_Read.f b = some (r1, r2)) :
    Calls Try.prog 20 #[.slice A b.length c] w fun e w' => ∃ v0_ : Value, e = .returned (.tuple #[v0_, .int .i64 r2]) ∧ Kd.S kB 47 w' w.heap.size (fun _ => True) v0_ r1 ∧ Below w.heap.size w w' := by
  unfold rickyardref09_Read.f at h
  by_cases hB : ∀ x ∈ b, 0 ≤ x ∧ x < 256
  case neg => rw [if_neg hB] at h; exact absurd h (by simp)
  rw [if_pos hB] at h
  have h := Option.some.inj h
  simp only [Prod.mk.injEq] at h
  have hu := Try.underlying47
  have hu3 := Try.underlying52
  have HRES := Aside0.mk h
  have HR := Aside0.mk hr0
  have HC := Aside0.mk hc0
  have HBY := Aside0.mk hB
  have HM := Aside0.mk hr0.2.1
  have HB0 := Aside0.mk (Below.refl w.heap.size w)
  obtain ⟨i5, hi5, hzz⟩ := Option.map_eq_some_iff.1 info5
  simp only [Prod.mk.injEq] at hzz
  have HI5 := Aside0.mk (And.intro hi5 hzz.2.1)
  clear hr0 hc0 hB h hi5 hzz
  go_enter Try.func20, Try.ntmps20
  go_wp2
  go_loopg [4, 5, 6] (b.length) (fun kq v4 v5 v6 w' => ∃ (A' : Option Addr) (b' : List Int) (c' : Nat) (last : List Int) (out : List Pr), v6 = .slice A' b'.length c' ∧ Aside0 (kq = b'.length ∧ b'.length ≤ c' ∧ out.length ≤ 4097 ∧ last.length ≤ 9000000 ∧ (∀ x ∈ b', 0 ≤ x ∧ x < 256) ∧ rr (b'.length + 1) b' last out = rr (b.length + 1) b [] []) ∧
    Aside0 (∀ W, Kd.C (Kd.int .u8) W A b.length b → Kd.C (Kd.int .u8) W A' b'.length b') ∧ Aside0 (Kd.S kB 47 w' w.heap.size (fun _ => True) v4 (out.map to47)) ∧ Aside0 (Kd.R (Kd.int .u8) 5 w' w.heap.size (fun _ => True) v5 last) ∧ Aside0 (Below w.heap.size w w'))
  case atStart => exact ⟨A, b, c, [], [], rfl, ⟨rfl, HC.out, by simp, by simp, HBY.out, rfl⟩, ⟨fun W h => h⟩, ⟨Kd.S_nil _ _ _ _ _⟩, ⟨Kd.R_nil _ _ _ _ _⟩, HB0⟩
  case round =>
    obtain ⟨A', b', c', last, out, rfl, HJ, HA, HS, HL, HB⟩ := hrel
    by_cases hemp : b'.length = 0
    · have e1_ : decide (0 < b'.length) = false := decide_eq_false (by omega)
      have e1c : decide (0 < (b'.length : Int)) = false := decide_eq_false (by omega)
      have HE := Aside0.mk (show rr (b.length + 1) b [] [] = some out by rw [← HJ.out.2.2.2.2.2, rr, if_pos hemp])
      clear hemp
      obtain ⟨AO, c4, hv4⟩ := Kd.S_slice HS.out
      rw [List.length_map] at hv4
      subst hv4
      obtain ⟨wb, we, hwb⟩ : ∃ wb we, block_Write.f out = some (wb, we) := ⟨_, _, rfl⟩
      have HWB := Aside0.mk hwb
      have hwr := fun W (hb : Below wr.heap.size wr W) => rickyardref09_Write.calls AO c4 (out.map to47) wb we W (Kd.S_reads' (Kd.S_below (S_of_B HS.out) hb)).2.2 (by have h_ := (Kd.S_reads' HS.out).2.1; rw [List.length_map]; exact h_) (by rw [to47_back]; exact hwb)
      rw [List.length_map] at hwr
      have HWR := Aside0.mk hwr
      clear hwb hwr
      by_cases he : we = 0
      case neg =>
        have g1 : (we != 0) = true := bne_iff_ne.2 he
        have g2 : (we == 0) = false := beq_eq_false_iff_ne.2 he
        have hres := HRES.out
        unfold refRdS at hres
        rw [HE.out] at hres
        simp only [] at hres
        rw [HWB.out] at hres
        simp only [] at hres
        rw [if_neg he] at hres
        obtain ⟨rfl, rfl⟩ : r1 = [] ∧ r2 = 60 := ⟨hres.1.symm, hres.2.symm⟩
        clear hres he
        go_wp2_with (first | ((with_reducible refine gate_callee (f := 12) rfl ?_); refine goesL_ (some 96) rfl rfl Try.func12 (by kernel_rfl) rfl #[.slice AO out.length c4] rfl (by (try simp only [List.map_toArray, List.map_cons, List.map_nil]); first | done | rfl | (simp only [List.length_drop, List.length_take]; rfl)) ?_; refine (HWR.out _ (Below.refl _ _)).mono ?_; rintro e w3 ⟨v3, rfl, hR, hb⟩; have HBX := Aside0.mk (HB.out.trans (hb.mono HB.out.size)); clear hR hb; refine ⟨_, rfl, ?_⟩))
        refine bodyPost_ret (results_tmp2 rfl _ _ _) rfl ?_
        exact ⟨_, rfl, Kd.S_nil _ _ _ _ _, HBX.out⟩
      have g1 : (we != 0) = false := bne_eq_false_iff_eq.2 he
      have g2 : (we == 0) = true := beq_iff_eq.2 he
      have g3 := HE
      have hcvb := fun n_ : Nat => fun W (hb : Below w.heap.size w W) => Kd.C_string (P := Try.prog) (A := A) (c := c) Try.underlying23 Try.underlying5 Try.underlying9 (Kd.C_below HR.out hb)
      have HCVB := Aside0.mk hcvb
      clear hcvb
      by_cases hc : cmpI wb b = 0
      · have s1 : ((strOfNums wb).toList != (strOfNums b).toList) = false := bne_eq_false_iff_eq.2 ((str_eq0 wb b).2 hc)
        have s2 : ((strOfNums wb).toList == (strOfNums b).toList) = true := beq_iff_eq.2 ((str_eq0 wb b).2 hc)
        have hres := HRES.out
        unfold refRdS at hres
        rw [HE.out] at hres
        simp only [] at hres
        rw [HWB.out] at hres
        simp only [] at hres
        rw [if_pos he, if_pos hc] at hres
        obtain ⟨rfl, rfl⟩ : r1 = out.map to47 ∧ r2 = 0 := ⟨hres.1.symm, hres.2.symm⟩
        clear hres hc
        subst he
        go_wp2_with (first | ((with_reducible refine gate_callee (f := 12) rfl ?_); refine goesL_ (some 96) rfl rfl Try.func12 (by kernel_rfl) rfl #[.slice AO out.length c4] rfl (by (try simp only [List.map_toArray, List.map_cons, List.map_nil]); first | done | rfl | (simp only [List.length_drop, List.length_take]; rfl)) ?_; refine (HWR.out _ (Below.refl _ _)).mono ?_; rintro e w3 ⟨v3, rfl, hR, hb⟩; have HBX := Aside0.mk (HB.out.trans (hb.mono HB.out.size)); have HSX := Aside0.mk (Kd.S_below HS.out hb); obtain ⟨A3, c3, rfl, hle3, hC3⟩ := Kd.R_reads hR; have hcv1 := Kd.C_string (P := Try.prog) (A := A3) (c := c3) Try.underlying23 Try.underlying5 Try.underlying9 hC3; have hcv2 := HCVB.out 0 _ HBX.out; clear hR hb hle3 hC3; refine ⟨_, rfl, ?_⟩))
        refine bodyPost_ret (results_tmp2 rfl _ _ _) rfl ?_
        exact ⟨_, rfl, HSX.out, HBX.out⟩
      · have s1 : ((strOfNums wb).toList != (strOfNums b).toList) = true := bne_iff_ne.2 (fun h_ => hc ((str_eq0 wb b).1 h_))
        have s2 : ((strOfNums wb).toList == (strOfNums b).toList) = false := beq_eq_false_iff_ne.2 (fun h_ => hc ((str_eq0 wb b).1 h_))
        have hres := HRES.out
        unfold refRdS at hres
        rw [HE.out] at hres
        simp only [] at hres
        rw [HWB.out] at hres
        simp only [] at hres
        rw [if_pos he, if_neg hc] at hres
        obtain ⟨rfl, rfl⟩ : r1 = [] ∧ r2 = 60 := ⟨hres.1.symm, hres.2.symm⟩
        clear hres hc
        subst he
        go_wp2_with (first | ((with_reducible refine gate_callee (f := 12) rfl ?_); refine goesL_ (some 96) rfl rfl Try.func12 (by kernel_rfl) rfl #[.slice AO out.length c4] rfl (by (try simp only [List.map_toArray, List.map_cons, List.map_nil]); first | done | rfl | (simp only [List.length_drop, List.length_take]; rfl)) ?_; refine (HWR.out _ (Below.refl _ _)).mono ?_; rintro e w3 ⟨v3, rfl, hR, hb⟩; have HBX := Aside0.mk (HB.out.trans (hb.mono HB.out.size)); obtain ⟨A3, c3, rfl, hle3, hC3⟩ := Kd.R_reads hR; have hcv1 := Kd.C_string (P := Try.prog) (A := A3) (c := c3) Try.underlying23 Try.underlying5 Try.underlying9 hC3; have hcv2 := HCVB.out 0 _ HBX.out; clear hR hb hle3 hC3; refine ⟨_, rfl, ?_⟩))
        refine bodyPost_ret (results_tmp2 rfl _ _ _) rfl ?_
        exact ⟨_, rfl, Kd.S_nil _ _ _ _ _, HBX.out⟩
    obtain ⟨AO, c4, hv4⟩ := Kd.S_slice HS.out
    rw [List.length_map] at hv4
    subst hv4
    have e1_ : decide (0 < b'.length) = true := decide_eq_true (by omega)
    have e1c : decide (0 < (b'.length : Int)) = true := decide_eq_true (by omega)
    by_cases hov : 4096 < out.length
    · have HE := Aside0.mk (show rr (b.length + 1) b [] [] = some out by rw [← HJ.out.2.2.2.2.2, rr, if_neg hemp, if_pos hov])
      have e2_ : decide (out.length ≤ 4096) = false := decide_eq_false (by omega)
      have e2c : decide ((out.length : Int) ≤ 4096) = false := decide_eq_false (by omega)
      clear hemp hov
      obtain ⟨wb, we, hwb⟩ : ∃ wb we, block_Write.f out = some (wb, we) := ⟨_, _, rfl⟩
      have HWB := Aside0.mk hwb
      have hwr := fun W (hb : Below wr.heap.size wr W) => rickyardref09_Write.calls AO c4 (out.map to47) wb we W (Kd.S_reads' (Kd.S_below (S_of_B HS.out) hb)).2.2 (by have h_ := (Kd.S_reads' HS.out).2.1; rw [List.length_map]; exact h_) (by rw [to47_back]; exact hwb)
      rw [List.length_map] at hwr
      have HWR := Aside0.mk hwr
      clear hwb hwr
      by_cases he : we = 0
      case neg =>
        have g1 : (we != 0) = true := bne_iff_ne.2 he
        have g2 : (we == 0) = false := beq_eq_false_iff_ne.2 he
        have hres := HRES.out
        unfold refRdS at hres
        rw [HE.out] at hres
        simp only [] at hres
        rw [HWB.out] at hres
        simp only [] at hres
        rw [if_neg he] at hres
        obtain ⟨rfl, rfl⟩ : r1 = [] ∧ r2 = 60 := ⟨hres.1.symm, hres.2.symm⟩
        clear hres he
        go_wp2_with (first | ((with_reducible refine gate_callee (f := 12) rfl ?_); refine goesL_ (some 96) rfl rfl Try.func12 (by kernel_rfl) rfl #[.slice AO out.length c4] rfl (by (try simp only [List.map_toArray, List.map_cons, List.map_nil]); first | done | rfl | (simp only [List.length_drop, List.length_take]; rfl)) ?_; refine (HWR.out _ (Below.refl _ _)).mono ?_; rintro e w3 ⟨v3, rfl, hR, hb⟩; have HBX := Aside0.mk (HB.out.trans (hb.mono HB.out.size)); clear hR hb; refine ⟨_, rfl, ?_⟩))
        refine bodyPost_ret (results_tmp2 rfl _ _ _) rfl ?_
        exact ⟨_, rfl, Kd.S_nil _ _ _ _ _, HBX.out⟩
      have g1 : (we != 0) = false := bne_eq_false_iff_eq.2 he
      have g2 : (we == 0) = true := beq_iff_eq.2 he
      have g3 := HE
      have hcvb := fun n_ : Nat => fun W (hb : Below w.heap.size w W) => Kd.C_string (P := Try.prog) (A := A) (c := c) Try.underlying23 Try.underlying5 Try.underlying9 (Kd.C_below HR.out hb)
      have HCVB := Aside0.mk hcvb
      clear hcvb
      by_cases hc : cmpI wb b = 0
      · have s1 : ((strOfNums wb).toList != (strOfNums b).toList) = false := bne_eq_false_iff_eq.2 ((str_eq0 wb b).2 hc)
        have s2 : ((strOfNums wb).toList == (strOfNums b).toList) = true := beq_iff_eq.2 ((str_eq0 wb b).2 hc)
        have hres := HRES.out
        unfold refRdS at hres
        rw [HE.out] at hres
        simp only [] at hres
        rw [HWB.out] at hres
        simp only [] at hres
        rw [if_pos he, if_pos hc] at hres
        obtain ⟨rfl, rfl⟩ : r1 = out.map to47 ∧ r2 = 0 := ⟨hres.1.symm, hres.2.symm⟩
        clear hres hc
        subst he
        go_wp2_with (first | ((with_reducible refine gate_callee (f := 12) rfl ?_); refine goesL_ (some 96) rfl rfl Try.func12 (by kernel_rfl) rfl #[.slice AO out.length c4] rfl (by (try simp only [List.map_toArray, List.map_cons, List.map_nil]); first | done | rfl | (simp only [List.length_drop, List.length_take]; rfl)) ?_; refine (HWR.out _ (Below.refl _ _)).mono ?_; rintro e w3 ⟨v3, rfl, hR, hb⟩; have HBX := Aside0.mk (HB.out.trans (hb.mono HB.out.size)); have HSX := Aside0.mk (Kd.S_below HS.out hb); obtain ⟨A3, c3, rfl, hle3, hC3⟩ := Kd.R_reads hR; have hcv1 := Kd.C_string (P := Try.prog) (A := A3) (c := c3) Try.underlying23 Try.underlying5 Try.underlying9 hC3; have hcv2 := HCVB.out 0 _ HBX.out; clear hR hb hle3 hC3; refine ⟨_, rfl, ?_⟩))
        refine bodyPost_ret (results_tmp2 rfl _ _ _) rfl ?_
        exact ⟨_, rfl, HSX.out, HBX.out⟩
      · have s1 : ((strOfNums wb).toList != (strOfNums b).toList) = true := bne_iff_ne.2 (fun h_ => hc ((str_eq0 wb b).1 h_))
        have s2 : ((strOfNums wb).toList == (strOfNums b).toList) = false := beq_eq_false_iff_ne.2 (fun h_ => hc ((str_eq0 wb b).1 h_))
        have hres := HRES.out
        unfold refRdS at hres
        rw [HE.out] at hres
        simp only [] at hres
        rw [HWB.out] at hres
        simp only [] at hres
        rw [if_pos he, if_neg hc] at hres
        obtain ⟨rfl, rfl⟩ : r1 = [] ∧ r2 = 60 := ⟨hres.1.symm, hres.2.symm⟩
        clear hres hc
        subst he
        go_wp2_with (first | ((with_reducible refine gate_callee (f := 12) rfl ?_); refine goesL_ (some 96) rfl rfl Try.func12 (by kernel_rfl) rfl #[.slice AO out.length c4] rfl (by (try simp only [List.map_toArray, List.map_cons, List.map_nil]); first | done | rfl | (simp only [List.length_drop, List.length_take]; rfl)) ?_; refine (HWR.out _ (Below.refl _ _)).mono ?_; rintro e w3 ⟨v3, rfl, hR, hb⟩; have HBX := Aside0.mk (HB.out.trans (hb.mono HB.out.size)); obtain ⟨A3, c3, rfl, hle3, hC3⟩ := Kd.R_reads hR; have hcv1 := Kd.C_string (P := Try.prog) (A := A3) (c := c3) Try.underlying23 Try.underlying5 Try.underlying9 hC3; have hcv2 := HCVB.out 0 _ HBX.out; clear hR hb hle3 hC3; refine ⟨_, rfl, ?_⟩))
        refine bodyPost_ret (results_tmp2 rfl _ _ _) rfl ?_
        exact ⟨_, rfl, Kd.S_nil _ _ _ _ _, HBX.out⟩
    have e2_ : decide (out.length ≤ 4096) = true := decide_eq_true (by omega)
    have e2c : decide ((out.length : Int) ≤ 4096) = true := decide_eq_true (by omega)
    have hth := fun W (hb : Below wr.heap.size wr W) => three_calls A' c' b' W (HA.out W (Kd.C_below HR.out (HB.out.trans (hb.mono HB.out.size)))) HJ.out.2.1 HJ.out.2.2.2.2.1
    cases hrd : rdK 3 b' with
    | none =>
      have HTH := Aside0.mk (show ∀ W, Below wr.heap.size wr W → Calls Try.prog 29 #[.slice A' b'.length c'] W fun e w' => (∃ m0 m1 m2 : Int, e = .returned (.tuple #[.agg #[.int .i64 m0, .int .i64 m1, .int .i64 m2], .slice none 0 0, .bool false])) ∧ Below W.heap.size W w' from fun W hb => (hth W hb).mono fun e w' h => by unfold ThP at h; rw [hrd] at h; exact h)
      have HE := Aside0.mk (show rr (b.length + 1) b [] [] = none by rw [← HJ.out.2.2.2.2.2, rr, if_neg hemp, if_neg hov, hrd])
      clear hth hrd hemp hov
      have hres := HRES.out
      unfold refRdS at hres
      rw [HE.out] at hres
      obtain ⟨rfl, rfl⟩ : r1 = [] ∧ r2 = 60 := ⟨hres.1.symm, hres.2.symm⟩
      clear hres
      go_wp2_with (first | ((with_reducible refine gate_callee (f := 29) rfl ?_); refine goesL_ (some 24) rfl rfl Try.func29 (by kernel_rfl) rfl #[.slice A' b'.length c'] rfl (by (try simp only [List.map_toArray, List.map_cons, List.map_nil]); first | done | rfl | (simp only [List.length_drop, List.length_take]; rfl)) ?_; refine (HTH.out _ (Below.refl _ _)).mono ?_; rintro e w2 ⟨⟨m0, m1, m2, rfl⟩, hb⟩; have HBX := Aside0.mk (below_alloc (HB.out.trans (hb.mono HB.out.size)) (.cells #[.int .i64 m0, .int .i64 m1, .int .i64 m2] 52)); clear hb; refine ⟨_, rfl, ?_⟩))
      refine bodyPost_ret (results_tmp2 rfl _ _ _) rfl ?_
      exact ⟨_, rfl, Kd.S_nil _ _ _ _ _, HBX.out⟩
    | some q =>
      obtain ⟨ns, rest⟩ := q
      have hns := rdK_ns hrd
      obtain ⟨n0, n1, n2, rfl⟩ : ∃ n0 n1 n2, ns = [n0, n1, n2] := by
        match ns, hns with
        | [a, b, c], _ => exact ⟨a, b, c, rfl⟩
      have hle := rdK_le HJ.out.2.2.2.2.1 hrd
      have h0 := hle n0 (by simp)
      have h1 := hle n1 (by simp)
      have h2 := hle n2 (by simp)
      have hrl := rdK_len HJ.out.2.2.2.2.1 hrd
      have HRB := Aside0.mk (show ∀ x ∈ rest, 0 ≤ x ∧ x < 256 from fun x hx => HJ.out.2.2.2.2.1 x (rdK_mem hrd x hx))
      obtain ⟨m0, hm0⟩ : ∃ m : Int, (n0 : Int) = m := ⟨_, rfl⟩
      obtain ⟨m1, hm1⟩ : ∃ m : Int, (n1 : Int) = m := ⟨_, rfl⟩
      obtain ⟨m2, hm2⟩ : ∃ m : Int, (n2 : Int) = m := ⟨_, rfl⟩
      have HTH := Aside0.mk (show ∀ W, Below wr.heap.size wr W → Calls Try.prog 29 #[.slice A' b'.length c'] W fun e w' => (∃ (A2 : Option Addr) (c2 : Nat), e = .returned (.tuple #[.agg #[.int .i64 m0, .int .i64 m1, .int .i64 m2], .slice A2 rest.length c2, .bool true]) ∧ (∀ W, Kd.C (Kd.int .u8) W A' b'.length b' → Kd.C (Kd.int .u8) W A2 rest.length rest) ∧ rest.length ≤ c2) ∧ Below W.heap.size W w' from fun W hb => (hth W hb).mono fun e w' h => by unfold ThP at h; rw [hrd] at h; rw [← hm0, ← hm1, ← hm2]; exact h)
      obtain ⟨AL, cL, hvL⟩ := Kd.R_slice HL.out
      subst hvL
      have hll := HJ.out.2.2.2.1
      have hcb := HM.out
      have hbl := HJ.out.1
      by_cases q0 : last.length < n0
      · have HE := Aside0.mk (show rr (b.length + 1) b [] [] = none by rw [← HJ.out.2.2.2.2.2, rr, if_neg hemp, if_neg hov, hrd]; simp only []; rw [if_pos q0])
        have d0 : decide ((last.length : Int) < m0) = true := decide_eq_true (by omega)
        clear hth hrd hemp hov hle h0 h1 h2 hm0 hm1 hm2 q0 hns hll hcb hbl hrl
        have hres := HRES.out
        unfold refRdS at hres
        rw [HE.out] at hres
        obtain ⟨rfl, rfl⟩ : r1 = [] ∧ r2 = 60 := ⟨hres.1.symm, hres.2.symm⟩
        clear hres
        go_wp2_with (first | ((with_reducible refine gate_callee (f := 29) rfl ?_); refine goesL_ (some 24) rfl rfl Try.func29 (by kernel_rfl) rfl #[.slice A' b'.length c'] rfl (by (try simp only [List.map_toArray, List.map_cons, List.map_nil]); first | done | rfl | (simp only [List.length_drop, List.length_take]; rfl)) ?_; refine (HTH.out _ (Below.refl _ _)).mono ?_; rintro e w2 ⟨⟨A2, c2, rfl, hA2, hc2⟩, hb⟩; have HB2 := Aside0.mk hb; have HA2 := Aside0.mk hA2; have HC2 := Aside0.mk hc2; have HBX := Aside0.mk (below_alloc (HB.out.trans (hb.mono HB.out.size)) (.cells #[.int .i64 m0, .int .i64 m1, .int .i64 m2] 52)); clear hb hA2 hc2; refine ⟨_, rfl, ?_⟩))
        refine bodyPost_ret (results_tmp2 rfl _ _ _) rfl ?_
        exact ⟨_, rfl, Kd.S_nil _ _ _ _ _, HBX.out⟩
      have d0 : decide ((last.length : Int) < m0) = false := decide_eq_false (by omega)
      by_cases q1 : rest.length < n1
      · have HE := Aside0.mk (show rr (b.length + 1) b [] [] = none by rw [← HJ.out.2.2.2.2.2, rr, if_neg hemp, if_neg hov, hrd]; simp only []; rw [if_neg q0, if_pos q1])
        have d1 : decide ((rest.length : Int) < m1) = true := decide_eq_true (by omega)
        clear hth hrd hemp hov hle h0 h1 h2 hm0 hm1 hm2 q0 q1 hns hll hcb hbl hrl
        have hres := HRES.out
        unfold refRdS at hres
        rw [HE.out] at hres
        obtain ⟨rfl, rfl⟩ : r1 = [] ∧ r2 = 60 := ⟨hres.1.symm, hres.2.symm⟩
        clear hres
        go_wp2_with (first | ((with_reducible refine gate_callee (f := 29) rfl ?_); refine goesL_ (some 24) rfl rfl Try.func29 (by kernel_rfl) rfl #[.slice A' b'.length c'] rfl (by (try simp only [List.map_toArray, List.map_cons, List.map_nil]); first | done | rfl | (simp only [List.length_drop, List.length_take]; rfl)) ?_; refine (HTH.out _ (Below.refl _ _)).mono ?_; rintro e w2 ⟨⟨A2, c2, rfl, hA2, hc2⟩, hb⟩; have HB2 := Aside0.mk hb; have HA2 := Aside0.mk hA2; have HC2 := Aside0.mk hc2; have HBX := Aside0.mk (below_alloc (HB.out.trans (hb.mono HB.out.size)) (.cells #[.int .i64 m0, .int .i64 m1, .int .i64 m2] 52)); clear hb hA2 hc2; refine ⟨_, rfl, ?_⟩))
        refine bodyPost_ret (results_tmp2 rfl _ _ _) rfl ?_
        exact ⟨_, rfl, Kd.S_nil _ _ _ _ _, HBX.out⟩
      have d1 : decide ((rest.length : Int) < m1) = false := decide_eq_false (by omega)
      obtain ⟨s1, hs1⟩ : ∃ s : Int, ((rest.length - n1 : Nat) : Int) = s := ⟨_, rfl⟩
      have HLEN := Aside0.mk (show b'.length ≤ 9223372036854775807 by have h_ := HA.out w HR.out; exact h_.2.1)
      have v1_ : wrap64 ((rest.length : Int) - m1) = s1 := by have := HLEN.out; unfold wrap64; omega
      by_cases q2 : rest.length - n1 < n2
      · have HE := Aside0.mk (show rr (b.length + 1) b [] [] = none by rw [← HJ.out.2.2.2.2.2, rr, if_neg hemp, if_neg hov, hrd]; simp only []; rw [if_neg q0, if_neg q1, if_pos q2])
        have d2 : decide (s1 < m2) = true := decide_eq_true (by omega)
        clear hth hrd hemp hov hle h0 h1 h2 hm0 hm1 hm2 q0 q1 q2 hs1 hns hll hcb hbl hrl
        have hres := HRES.out
        unfold refRdS at hres
        rw [HE.out] at hres
        obtain ⟨rfl, rfl⟩ : r1 = [] ∧ r2 = 60 := ⟨hres.1.symm, hres.2.symm⟩
        clear hres
        go_wp2_with (first | ((with_reducible refine gate_callee (f := 29) rfl ?_); refine goesL_ (some 24) rfl rfl Try.func29 (by kernel_rfl) rfl #[.slice A' b'.length c'] rfl (by (try simp only [List.map_toArray, List.map_cons, List.map_nil]); first | done | rfl | (simp only [List.length_drop, List.length_take]; rfl)) ?_; refine (HTH.out _ (Below.refl _ _)).mono ?_; rintro e w2 ⟨⟨A2, c2, rfl, hA2, hc2⟩, hb⟩; have HB2 := Aside0.mk hb; have HA2 := Aside0.mk hA2; have HC2 := Aside0.mk hc2; have HBX := Aside0.mk (below_alloc (HB.out.trans (hb.mono HB.out.size)) (.cells #[.int .i64 m0, .int .i64 m1, .int .i64 m2] 52)); clear hb hA2 hc2; refine ⟨_, rfl, ?_⟩))
        refine bodyPost_ret (results_tmp2 rfl _ _ _) rfl ?_
        exact ⟨_, rfl, Kd.S_nil _ _ _ _ _, HBX.out⟩
      have d2 : decide (s1 < m2) = false := decide_eq_false (by omega)
      have HE := Aside0.mk (show rr (b.length + 1) b [] [] = rr b'.length (rest.drop (n1 + n2)) (last.take n0 ++ rest.take n1) (out ++ [rrP last rest n0 n1 n2]) by rw [← HJ.out.2.2.2.2.2, rr, if_neg hemp, if_neg hov, hrd]; simp only []; rw [if_neg q0, if_neg q1, if_neg q2])
      have HN := Aside0.mk (show n0 ≤ 4096 ∧ n1 ≤ 4096 ∧ n2 ≤ 4096 ∧ n0 ≤ last.length ∧ n1 + n2 ≤ rest.length ∧ rest.length + 3 ≤ b'.length ∧ out.length ≤ 4096 from ⟨h0, h1, h2, by omega, by omega, hrl, by omega⟩)
      have HMM := Aside0.mk (show (n0 : Int) = m0 ∧ (n1 : Int) = m1 ∧ (n2 : Int) = m2 from ⟨hm0, hm1, hm2⟩)
      clear hth hrd hemp hov hle h0 h1 h2 hm0 hm1 hm2 q0 q1 q2 hs1 hns hll hcb hbl hrl
      go_upto_region 9 with (first | ((with_reducible refine gate_callee (f := 29) rfl ?_); refine goesL_ (some 24) rfl rfl Try.func29 (by kernel_rfl) rfl #[.slice A' b'.length c'] rfl (by (try simp only [List.map_toArray, List.map_cons, List.map_nil]); first | done | rfl | (simp only [List.length_drop, List.length_take]; rfl)) ?_; refine (HTH.out _ (Below.refl _ _)).mono ?_; rintro e w2 ⟨⟨A2, c2, rfl, hA2, hc2⟩, hb⟩; have HB2 := Aside0.mk hb; have HA2 := Aside0.mk hA2; have HC2 := Aside0.mk hc2; have HBX := Aside0.mk (below_alloc (HB.out.trans (hb.mono HB.out.size)) (.cells #[.int .i64 m0, .int .i64 m1, .int .i64 m2] 52)); clear hb hA2 hc2; refine ⟨_, rfl, ?_⟩))
      obtain ⟨W4, hW4⟩ : ∃ W4, (w2.alloc (.cells #[.int .i64 m0, .int .i64 m1, .int .i64 m2] 52)).alloc (.cells #[.slice none 0 0, .slice none 0 0] 47) = W4 := ⟨_, rfl⟩
      obtain ⟨g7, hg7⟩ : ∃ g, w2.heap.size = g := ⟨_, rfl⟩
      obtain ⟨gp, hgp⟩ : ∃ g, g7 + 1 = g := ⟨_, rfl⟩
      have B7 := Aside0.mk (show W4.heap[g7]? = some (.cells #[.int .i64 m0, .int .i64 m1, .int .i64 m2] 52 (0, 0)) by rw [← hW4, ← hg7]; exact blk_alloc (blk_new _ _) _)
      have BP := Aside0.mk (show W4.heap[gp]? = some (.cells #[.slice none 0 0, .slice none 0 0] 47 (0, 0)) by rw [← hW4, ← hgp, ← hg7]; exact blk_new1' _ _ _)
      have HB4 := Aside0.mk (show Below wr.heap.size wr W4 by rw [← hW4]; exact below_alloc (below_alloc HB2.out _) _)
      have HG := Aside0.mk (show wr.heap.size ≤ g7 ∧ g7 < gp by have := HB2.out.size; omega)
      rw [hW4, hg7, hgp]
      have hmm := HMM.out
      have hnn := HN.out
      have hcl := (Kd.R_reads' HL.out).2.1
      obtain ⟨s2, hs2⟩ : ∃ s : Int, ((n1 + n2 : Nat) : Int) = s := ⟨_, rfl⟩
      have v2_ : wrap64 (m1 + m2) = s2 := by unfold wrap64; omega
      have hl0 : (last.take n0).length = n0 := by rw [List.length_take]; omega
      have hl1 : (rest.take n1).length = n1 := by rw [List.length_take]; omega
      have hl3 : ((rest.take (n1 + n2)).drop n1).length = n2 := by rw [List.length_drop, List.length_take]; omega
      obtain ⟨r, hr⟩ : ∃ r, rest.length - (n1 + n2) = r := ⟨_, rfl⟩
      have hl4 : (rest.drop (n1 + n2)).length = r := by rw [List.length_drop, hr]
      have t0 : m0.toNat = n0 := by omega
      have t1 : m1.toNat = n1 := by omega
      have t2 : s2.toNat = n1 + n2 := by omega
      obtain ⟨cut0, cut0r, cut0l⟩ := print_take_of (P := Try.prog) (Value.int .u8) (0 : Int) 23 5 .i64 Try.underlying23 HI5.out.1 HI5.out.2 AL cL last m0 (by omega) (by omega) hcl
      obtain ⟨cut1, cut1r, cut1l⟩ := print_take_of (P := Try.prog) (Value.int .u8) (0 : Int) 23 5 .i64 Try.underlying23 HI5.out.1 HI5.out.2 A2 c2 rest m1 (by omega) (by omega) HC2.out
      obtain ⟨A3, cut3, cut3r, cut3l⟩ := print_mid_of (P := Try.prog) (Value.int .u8) (0 : Int) 23 5 .i64 .i64 Try.underlying23 HI5.out.1 HI5.out.2 A2 c2 rest m1 s2 (by omega) (by omega) (by omega) HC2.out
      obtain ⟨A4, cut4, cut4r, cut4l⟩ := print_drop_of (P := Try.prog) (Value.int .u8) (0 : Int) 23 5 .i64 Try.underlying23 HI5.out.1 HI5.out.2 A2 c2 rest s2 (by omega) (by omega) HC2.out
      rw [t0, hl0] at cut0 cut0r
      rw [t1, hl1] at cut1 cut1r
      rw [t1, t2, hl3] at cut3 cut3r cut3l
      rw [t2, hl4] at cut4 cut4r cut4l
      have HRST := Aside0.mk (show ∀ W, Below w.heap.size w W → Kd.C (Kd.int .u8) W A2 rest.length rest from fun W hb => HA2.out W (HA.out W (Kd.C_below HR.out hb)))
      have HA0 := Aside0.mk (show ∀ W, Below wr.heap.size wr W → Kd.C (Kd.int .u8) W AL n0 (last.take n0) from fun W hb => Kd.C_of_reads (d := (0 : Int)) (h1 := fun _ => rfl) (cut0r W (Kd.reads_of_C (Kd.C_below (Kd.R_reads' HL.out).2.2 hb))))
      have HA1 := Aside0.mk (show ∀ W, Below w.heap.size w W → Kd.C (Kd.int .u8) W A2 n1 (rest.take n1) from fun W hb => Kd.C_of_reads (d := (0 : Int)) (h1 := fun _ => rfl) (cut1r W (Kd.reads_of_C (HRST.out W hb))))
      have HA3 := Aside0.mk (show ∀ W, Below w.heap.size w W → Kd.C (Kd.int .u8) W A3 n2 ((rest.take (n1 + n2)).drop n1) from fun W hb => Kd.C_of_reads (d := (0 : Int)) (h1 := fun _ => rfl) (cut3r W (Kd.reads_of_C (HRST.out W hb))))
      have HA4 := Aside0.mk (show ∀ W, Kd.C (Kd.int .u8) W A b.length b → Kd.C (Kd.int .u8) W A4 r (rest.drop (n1 + n2)) from fun W hC => Kd.C_of_reads (d := (0 : Int)) (h1 := fun _ => rfl) (cut4r W (Kd.reads_of_C (HA2.out W (HA.out W hC)))))
      have HCP := Aside0.mk (show ∀ W, Below w.heap.size w W → Calls Try.prog 18 #[.slice A3 n2 (c2 - n1)] W fun e w' => ∃ v, e = .returned v ∧ Kd.R (Kd.int .u8) 5 w' W.heap.size (fun _ => True) v ((rest.take (n1 + n2)).drop n1) ∧ Below W.heap.size W w' from fun W hb => by
        have h_ := rickyardref05_Copy.calls A3 (c2 - n1) ((rest.take (n1 + n2)).drop n1) ((rest.take (n1 + n2)).drop n1) W (by rw [hl3]; exact HA3.out W hb) (by rw [hl3]; exact cut3l) (by unfold rickyardref05_Copy.f; rw [if_pos (by rw [hl3]; simp; omega)]; simp)
        rw [hl3] at h_; exact h_)
      have HL4 := Aside0.mk (And.intro hl0 (And.intro hl1 (And.intro hl3 (And.intro hl4 cut4l))))
      have HNEP := Aside0.mk (show ∀ q, q ∈ 5 :: (Kd.int .u8).E → q ≠ 47 by decide)
      have HSR := Aside0.mk (show Kd.S kB 47 wr w.heap.size (fun k => k < wr.heap.size) (.slice AO out.length c4) (out.map to47) from Kd.S_mono (Kd.S_bound HS.out) (fun k hk => hk.2.2.1))
      have HRR := Aside0.mk (And.intro hr (Nat.le_refl r))
      clear hW4 hg7 hgp hmm hnn hcl hs2 hl0 hl1 hl3 hl4 hr t0 t1 t2 cut0r cut1r cut3r cut4r cut0l cut1l cut3l cut4l
      go_cut [] (fun wc => ∃ (A5 : Option Addr) (c5 : Nat), Aside0 (wc.heap[gp]? = some (.cells #[.slice A5 n0 c5, .slice none 0 0] 47 (0, 0))) ∧ Aside0 (wc.heap[g7]? = some (.cells #[.int .i64 m0, .int .i64 m1, .int .i64 m2] 52 (0, 0))) ∧ Aside0 (Kd.R (Kd.int .u8) 5 wc wr.heap.size (fun _ => True) (.slice A5 n0 c5) (last.take n0)) ∧ Aside0 (Below wr.heap.size wr wc))
      case first =>
        have k0 : W4.drew.cell? ⟨gp, 0, none⟩ = some (.slice none 0 0) := (blk_cell BP.out 0).trans rfl
        have kn : W4.drew.cell? ⟨g7, 0, none⟩ = some (.int .i64 m0) := (blk_cell B7.out 0).trans rfl
        refine wp_region_any (by kernel_rfl) ?_; change wpAny _ _ _ _ _ _ _ (World.drew _); (refine wpAny_take (i := 0) (v := ?_) rfl (by kernel_rfl) (by kernel_rfl) (by kernel_rfl) (fun _ _ _ h => h) (Or.inl ⟨by rfl, ?_⟩) ?_; rotate_left 1; focus (intro ww; go_simp; try with_reducible rfl))
        (refine wpAny_take (i := 2) (v := ?_) rfl (by kernel_rfl) (by kernel_rfl) (by kernel_rfl) (fun _ _ _ h => h) (Or.inl ⟨by rfl, ?_⟩) ?_; rotate_left 1; focus (intro ww; go_simp; try with_reducible rfl))
        (refine wpAny_take (i := 3) (v := ?_) rfl (by kernel_rfl) (by kernel_rfl) (by kernel_rfl) (fun _ _ _ h => h) (Or.inl ⟨by rfl, ?_⟩) ?_; rotate_left 1; focus (intro ww; go_simp; try with_reducible rfl))
        refine wpAny_ready (rs := [1, 4]) (by kernel_rfl) (by simp) ?_
        refine AllReady.cons rfl (fun K hK => ?_) ?_;
        · (go_simp; refine hK _ _ ?_; clear hK K)
          refine wpAny_ready (rs := [4]) (by kernel_rfl) (by simp) ?_; refine AllReady.cons rfl (fun K hK => ?_) ?_; rotate_left 1; focus exact AllReady.nil
          (go_simp; refine hK _ _ ?_; clear hK K)
          (refine wpAny_take (i := 5) (v := ?_) rfl (by kernel_rfl) (by kernel_rfl) (by kernel_rfl) (fun _ _ _ h => h) (Or.inl ⟨by rfl, ?_⟩) ?_; rotate_left 1; focus (intro ww; go_simp; try with_reducible rfl))
          refine wpAny_ready (rs := [6]) (by kernel_rfl) (by simp) ?_; refine AllReady.cons rfl (fun K hK => ?_) ?_; rotate_left 1; focus exact AllReady.nil
          refine Kd.R_append_rows_step (Kd.int .u8) (w0 := wr) wr.heap.size (by rfl) (.tmp 55) (.tmp 59) 23 5 (.int .u8 0) 1 rfl Try.underlying23 info5 rfl (by decide) (by omega) (.slice none 0 0) [] (last.take n0) AL n0 cL (fun _ => True) (fun _ => False) (by rfl) (by rfl) (Kd.R_nil _ _ _ _ _) (HA0.out _ HB4.out.drew) (fun _ _ h => h) (fun _ h => h.elim) (fun _ _ => trivial) HB4.out.drew HB4.out.drew.size (by have := HN.out; simp; omega) ?_
          intro v5 w5 ho hb hg hat
          obtain ⟨A5, c5, hv5⟩ := Kd.R_slice ho
          rw [List.nil_append] at ho hv5
          rw [HL4.out.1] at hv5
          subst hv5
          have hb7 := blk_grown (blk_drew B7.out) hg (by simp [Value.ownBlock])
          have hbp := blk_grown (blk_drew BP.out) hg (by simp [Value.ownBlock])
          have hca : w5.cell? ⟨gp, 0, none⟩ = some (.slice none 0 0) := (blk_cell hbp 0).trans rfl
          have hfa : w5.frozen? ⟨gp, 0, none⟩ = false := blk_frozen hbp 0
          have HO5 := Aside0.mk ho
          have HB5 := Aside0.mk hb
          have B75 := Aside0.mk hb7
          have BP5 := Aside0.mk hbp
          clear ho hb hg hat hb7 hbp k0 kn
          refine hK _ _ ?_
          clear hK K
          (refine wpAny_take (i := 7) (v := ?_) rfl (by kernel_rfl) (by kernel_rfl) (by kernel_rfl) (fun _ _ _ h => h) (Or.inl ⟨by rfl, ?_⟩) ?_; rotate_left 1; focus (intro ww; go_simp; try with_reducible rfl))
          refine wpAny_ready (rs := [8]) (by kernel_rfl) (by simp) ?_; refine AllReady.cons rfl (fun K hK => ?_) ?_; rotate_left 1; focus exact AllReady.nil
          (go_simp; refine hK _ _ ?_; clear hK K)
          refine wpAny_done (by kernel_rfl) ?_ _;
          go_wp2
          go_meet
          case rel => exact ⟨A5, c5, ⟨blk_put BP5.out 0 _ rfl⟩, ⟨blk_far B75.out (by have := HG.out; show g7 ≠ gp; omega) _⟩, ⟨Kd.R_set HO5.out BP5.out HNEP.out 0 _⟩, ⟨below_set HB5.out (by have := HG.out; omega)⟩⟩
        · refine AllReady.cons rfl (fun K hK => ?_) ?_; rotate_left 1; focus exact AllReady.nil
          (go_simp; refine hK _ _ ?_; clear hK K)
          (refine wpAny_take (i := 5) (v := ?_) rfl (by kernel_rfl) (by kernel_rfl) (by kernel_rfl) (fun _ _ _ h => h) (Or.inl ⟨by rfl, ?_⟩) ?_; rotate_left 1; focus (intro ww; go_simp; try with_reducible rfl))
          refine wpAny_ready (rs := [1]) (by kernel_rfl) (by simp) ?_; refine AllReady.cons rfl (fun K hK => ?_) ?_; rotate_left 1; focus exact AllReady.nil
          (go_simp; refine hK _ _ ?_; clear hK K)
          refine wpAny_ready (rs := [6]) (by kernel_rfl) (by simp) ?_; refine AllReady.cons rfl (fun K hK => ?_) ?_; rotate_left 1; focus exact AllReady.nil
          refine Kd.R_append_rows_step (Kd.int .u8) (w0 := wr) wr.heap.size (by rfl) (.tmp 55) (.tmp 59) 23 5 (.int .u8 0) 1 rfl Try.underlying23 info5 rfl (by decide) (by omega) (.slice none 0 0) [] (last.take n0) AL n0 cL (fun _ => True) (fun _ => False) (by rfl) (by rfl) (Kd.R_nil _ _ _ _ _) (HA0.out _ HB4.out.drew) (fun _ _ h => h) (fun _ h => h.elim) (fun _ _ => trivial) HB4.out.drew HB4.out.drew.size (by have := HN.out; simp; omega) ?_
          intro v5 w5 ho hb hg hat
          obtain ⟨A5, c5, hv5⟩ := Kd.R_slice ho
          rw [List.nil_append] at ho hv5
          rw [HL4.out.1] at hv5
          subst hv5
          have hb7 := blk_grown (blk_drew B7.out) hg (by simp [Value.ownBlock])
          have hbp := blk_grown (blk_drew BP.out) hg (by simp [Value.ownBlock])
          have hca : w5.cell? ⟨gp, 0, none⟩ = some (.slice none 0 0) := (blk_cell hbp 0).trans rfl
          have hfa : w5.frozen? ⟨gp, 0, none⟩ = false := blk_frozen hbp 0
          have HO5 := Aside0.mk ho
          have HB5 := Aside0.mk hb
          have B75 := Aside0.mk hb7
          have BP5 := Aside0.mk hbp
          clear ho hb hg hat hb7 hbp k0 kn
          refine hK _ _ ?_
          clear hK K
          (refine wpAny_take (i := 7) (v := ?_) rfl (by kernel_rfl) (by kernel_rfl) (by kernel_rfl) (fun _ _ _ h => h) (Or.inl ⟨by rfl, ?_⟩) ?_; rotate_left 1; focus (intro ww; go_simp; try with_reducible rfl))
          refine wpAny_ready (rs := [8]) (by kernel_rfl) (by simp) ?_; refine AllReady.cons rfl (fun K hK => ?_) ?_; rotate_left 1; focus exact AllReady.nil
          (go_simp; refine hK _ _ ?_; clear hK K)
          refine wpAny_done (by kernel_rfl) ?_ _;
          go_wp2
          go_meet
          case rel => exact ⟨A5, c5, ⟨blk_put BP5.out 0 _ rfl⟩, ⟨blk_far B75.out (by have := HG.out; show g7 ≠ gp; omega) _⟩, ⟨Kd.R_set HO5.out BP5.out HNEP.out 0 _⟩, ⟨below_set HB5.out (by have := HG.out; omega)⟩⟩
      case rest =>
        obtain ⟨A5, c5, BP5, B75, HO5, HB5⟩ := hcut
        clear B7 BP HB4
        go_upto_region 10 with (fail)
        go_cut [] (fun wc' => ∃ (A6 : Option Addr) (c6 : Nat), Aside0 (wc'.heap[gp]? = some (.cells #[.slice A6 (n0 + n1) c6, .slice none 0 0] 47 (0, 0))) ∧ Aside0 (wc'.heap[g7]? = some (.cells #[.int .i64 m0, .int .i64 m1, .int .i64 m2] 52 (0, 0))) ∧ Aside0 (Kd.R (Kd.int .u8) 5 wc' wr.heap.size (fun _ => True) (.slice A6 (n0 + n1) c6) (last.take n0 ++ rest.take n1)) ∧ Aside0 (Below wr.heap.size wr wc'))
        case first =>
          have k0 : wc.drew.cell? ⟨gp, 0, none⟩ = some (.slice A5 n0 c5) := (blk_cell BP5.out 0).trans rfl
          have kn : wc.drew.cell? ⟨g7, 1, none⟩ = some (.int .i64 m1) := (blk_cell B75.out 1).trans rfl
          refine wp_region_any (by kernel_rfl) ?_; change wpAny _ _ _ _ _ _ _ (World.drew _); (refine wpAny_take (i := 0) (v := ?_) rfl (by kernel_rfl) (by kernel_rfl) (by kernel_rfl) (fun _ _ _ h => h) (Or.inl ⟨by rfl, ?_⟩) ?_; rotate_left 1; focus (intro ww; go_simp; try with_reducible rfl))
          (refine wpAny_take (i := 2) (v := ?_) rfl (by kernel_rfl) (by kernel_rfl) (by kernel_rfl) (fun _ _ _ h => h) (Or.inl ⟨by rfl, ?_⟩) ?_; rotate_left 1; focus (intro ww; go_simp; try with_reducible rfl))
          (refine wpAny_take (i := 3) (v := ?_) rfl (by kernel_rfl) (by kernel_rfl) (by kernel_rfl) (fun _ _ _ h => h) (Or.inl ⟨by rfl, ?_⟩) ?_; rotate_left 1; focus (intro ww; go_simp; try with_reducible rfl))
          refine wpAny_ready (rs := [1, 4]) (by kernel_rfl) (by simp) ?_
          refine AllReady.cons rfl (fun K hK => ?_) ?_;
          · (go_simp; refine hK _ _ ?_; clear hK K)
            refine wpAny_ready (rs := [4]) (by kernel_rfl) (by simp) ?_; refine AllReady.cons rfl (fun K hK => ?_) ?_; rotate_left 1; focus exact AllReady.nil
            (go_simp; refine hK _ _ ?_; clear hK K)
            (refine wpAny_take (i := 5) (v := ?_) rfl (by kernel_rfl) (by kernel_rfl) (by kernel_rfl) (fun _ _ _ h => h) (Or.inl ⟨by rfl, ?_⟩) ?_; rotate_left 1; focus (intro ww; go_simp; try with_reducible rfl))
            refine wpAny_ready (rs := [6]) (by kernel_rfl) (by simp) ?_; refine AllReady.cons rfl (fun K hK => ?_) ?_; rotate_left 1; focus exact AllReady.nil
            refine Kd.R_append_rows_step (Kd.int .u8) (w0 := wr) wr.heap.size (by rfl) (.tmp 63) (.tmp 67) 23 5 (.int .u8 0) 1 rfl Try.underlying23 info5 rfl (by decide) (by omega) (.slice A5 n0 c5) (last.take n0) (rest.take n1) A2 n1 c2 (fun _ => True) (fun _ => False) (by rfl) (by rfl) (Kd.R_drew HO5.out) (HA1.out _ (HB.out.trans (HB5.out.drew.mono HB.out.size))) (fun _ _ h => h) (fun _ h => h.elim) (fun _ _ => trivial) HB5.out.drew HB5.out.drew.size (by have := HN.out; rw [HL4.out.1]; omega) ?_
            intro v6 w6 ho hb hg hat
            obtain ⟨A6, c6, hv6⟩ := Kd.R_slice ho
            rw [List.length_append, HL4.out.1, HL4.out.2.1] at hv6
            subst hv6
            have hb7 := blk_grown (blk_drew B75.out) hg (Kd.R_ne (Kd.R_drew HO5.out) (blk_drew B75.out) (by decide))
            have hbp := blk_grown (blk_drew BP5.out) hg (Kd.R_ne (Kd.R_drew HO5.out) (blk_drew BP5.out) (by decide))
            have hca : w6.cell? ⟨gp, 0, none⟩ = some (.slice A5 n0 c5) := (blk_cell hbp 0).trans rfl
            have hfa : w6.frozen? ⟨gp, 0, none⟩ = false := blk_frozen hbp 0
            have HO6 := Aside0.mk ho
            have HB6 := Aside0.mk hb
            have B76 := Aside0.mk hb7
            have BP6 := Aside0.mk hbp
            clear ho hb hg hat hb7 hbp k0 kn
            refine hK _ _ ?_
            clear hK K
            (refine wpAny_take (i := 7) (v := ?_) rfl (by kernel_rfl) (by kernel_rfl) (by kernel_rfl) (fun _ _ _ h => h) (Or.inl ⟨by rfl, ?_⟩) ?_; rotate_left 1; focus (intro ww; go_simp; try with_reducible rfl))
            refine wpAny_ready (rs := [8]) (by kernel_rfl) (by simp) ?_; refine AllReady.cons rfl (fun K hK => ?_) ?_; rotate_left 1; focus exact AllReady.nil
            (go_simp; refine hK _ _ ?_; clear hK K)
            refine wpAny_done (by kernel_rfl) ?_ _;
            go_wp2
            go_meet
            case rel => exact ⟨A6, c6, ⟨blk_put BP6.out 0 _ rfl⟩, ⟨blk_far B76.out (by have := HG.out; show g7 ≠ gp; omega) _⟩, ⟨Kd.R_set HO6.out BP6.out HNEP.out 0 _⟩, ⟨below_set HB6.out (by have := HG.out; omega)⟩⟩
          · refine AllReady.cons rfl (fun K hK => ?_) ?_; rotate_left 1; focus exact AllReady.nil
            (go_simp; refine hK _ _ ?_; clear hK K)
            (refine wpAny_take (i := 5) (v := ?_) rfl (by kernel_rfl) (by kernel_rfl) (by kernel_rfl) (fun _ _ _ h => h) (Or.inl ⟨by rfl, ?_⟩) ?_; rotate_left 1; focus (intro ww; go_simp; try with_reducible rfl))
            refine wpAny_ready (rs := [1]) (by kernel_rfl) (by simp) ?_; refine AllReady.cons rfl (fun K hK => ?_) ?_; rotate_left 1; focus exact AllReady.nil
            (go_simp; refine hK _ _ ?_; clear hK K)
            refine wpAny_ready (rs := [6]) (by kernel_rfl) (by simp) ?_; refine AllReady.cons rfl (fun K hK => ?_) ?_; rotate_left 1; focus exact AllReady.nil
            refine Kd.R_append_rows_step (Kd.int .u8) (w0 := wr) wr.heap.size (by rfl) (.tmp 63) (.tmp 67) 23 5 (.int .u8 0) 1 rfl Try.underlying23 info5 rfl (by decide) (by omega) (.slice A5 n0 c5) (last.take n0) (rest.take n1) A2 n1 c2 (fun _ => True) (fun _ => False) (by rfl) (by rfl) (Kd.R_drew HO5.out) (HA1.out _ (HB.out.trans (HB5.out.drew.mono HB.out.size))) (fun _ _ h => h) (fun _ h => h.elim) (fun _ _ => trivial) HB5.out.drew HB5.out.drew.size (by have := HN.out; rw [HL4.out.1]; omega) ?_
            intro v6 w6 ho hb hg hat
            obtain ⟨A6, c6, hv6⟩ := Kd.R_slice ho
            rw [List.length_append, HL4.out.1, HL4.out.2.1] at hv6
            subst hv6
            have hb7 := blk_grown (blk_drew B75.out) hg (Kd.R_ne (Kd.R_drew HO5.out) (blk_drew B75.out) (by decide))
            have hbp := blk_grown (blk_drew BP5.out) hg (Kd.R_ne (Kd.R_drew HO5.out) (blk_drew BP5.out) (by decide))
            have hca : w6.cell? ⟨gp, 0, none⟩ = some (.slice A5 n0 c5) := (blk_cell hbp 0).trans rfl
            have hfa : w6.frozen? ⟨gp, 0, none⟩ = false := blk_frozen hbp 0
            have HO6 := Aside0.mk ho
            have HB6 := Aside0.mk hb
            have B76 := Aside0.mk hb7
            have BP6 := Aside0.mk hbp
            clear ho hb hg hat hb7 hbp k0 kn
            refine hK _ _ ?_
            clear hK K
            (refine wpAny_take (i := 7) (v := ?_) rfl (by kernel_rfl) (by kernel_rfl) (by kernel_rfl) (fun _ _ _ h => h) (Or.inl ⟨by rfl, ?_⟩) ?_; rotate_left 1; focus (intro ww; go_simp; try with_reducible rfl))
            refine wpAny_ready (rs := [8]) (by kernel_rfl) (by simp) ?_; refine AllReady.cons rfl (fun K hK => ?_) ?_; rotate_left 1; focus exact AllReady.nil
            (go_simp; refine hK _ _ ?_; clear hK K)
            refine wpAny_done (by kernel_rfl) ?_ _;
            go_wp2
            go_meet
            case rel => exact ⟨A6, c6, ⟨blk_put BP6.out 0 _ rfl⟩, ⟨blk_far B76.out (by have := HG.out; show g7 ≠ gp; omega) _⟩, ⟨Kd.R_set HO6.out BP6.out HNEP.out 0 _⟩, ⟨below_set HB6.out (by have := HG.out; omega)⟩⟩
        case rest =>
          obtain ⟨A6, c6, BP6, B76, HO6, HB6⟩ := hcut
          clear BP5 B75 HO5 HB5
          have kn1 : wc.cell? ⟨g7, 1, none⟩ = some (.int .i64 m1) := (blk_cell B76.out 1).trans rfl
          have kn2 : wc.cell? ⟨g7, 2, none⟩ = some (.int .i64 m2) := (blk_cell B76.out 2).trans rfl
          go_upto_region 12 with (first
            | ((with_reducible refine gate_callee (f := 18) rfl ?_); refine goesL_ (some 79) rfl rfl Try.func18 (by kernel_rfl) rfl #[.slice A3 n2 (c2 - n1)] rfl (by (try simp only [List.map_toArray, List.map_cons, List.map_nil]); first | done | rfl | (simp only [List.length_drop, List.length_take]; rfl)) ?_; refine (HCP.out _ (HB.out.trans (HB6.out.mono HB.out.size))).mono ?_; rintro e w7 ⟨v7, rfl, hR, hb⟩; obtain ⟨A7, c7, hv7⟩ := Kd.R_slice hR; rw [HL4.out.2.2.1] at hv7; subst hv7; have HO7 := Aside0.mk (Kd.R_mono (Kd.R_lower (Kd.R_new' hR (Kd.R_lt HO6.out)) HB6.out.size) (fun _ h_ => h_.2)); have HO67 := Aside0.mk (Kd.R_below HO6.out hb); have HB7 := Aside0.mk (HB6.out.trans (hb.mono HB6.out.size)); have B77 := Aside0.mk (blk_below B76.out hb); have BP7 := Aside0.mk (blk_below BP6.out hb); have hca : w7.cell? ⟨gp, 1, none⟩ = some (.slice none 0 0) := (blk_cell BP7.out 1).trans rfl; have hfa : w7.frozen? ⟨gp, 1, none⟩ = false := blk_frozen BP7.out 1; clear hR hb; refine ⟨_, rfl, ?_⟩))
          obtain ⟨W8, hW8⟩ : ∃ W, w7.setCell ⟨gp, 1, none⟩ (.slice A7 n2 c7) = W := ⟨_, rfl⟩
          rw [hW8]
          have hb8 : Below wr.heap.size wr (w7.setCell ⟨gp, 1, none⟩ (.slice A7 n2 c7)) := below_set HB7.out (by have := HG.out; omega)
          have hbp := blk_put BP7.out 1 (.slice A7 n2 c7) (cs' := #[.slice A6 (n0 + n1) c6, .slice A7 n2 c7]) rfl
          have hb7 := blk_far B77.out (p := ⟨gp, 1, none⟩) (by have := HG.out; show g7 ≠ gp; omega) (.slice A7 n2 c7)
          have ho6 := Kd.R_set HO67.out BP7.out HNEP.out 1 (.slice A7 n2 c7)
          have ho7 := Kd.R_set HO7.out BP7.out HNEP.out 1 (.slice A7 n2 c7)
          rw [hW8] at hb8 hbp hb7 ho6 ho7
          have HB8 := Aside0.mk hb8
          have BP8 := Aside0.mk hbp
          have B78 := Aside0.mk hb7
          have HLE8 := Aside0.mk (show wr.heap.size ≤ W8.heap.size from hb8.size)
          have HKEY := Aside0.mk (show Kd.R (Kd.int .u8) 5 W8 w.heap.size (fun k => wr.heap.size ≤ k) (.slice A6 (n0 + n1) c6) (last.take n0 ++ rest.take n1) from Kd.R_lower (Kd.R_mono (Kd.R_bound ho6) (fun k hk => hk.2.1)) HB.out.size)
          have hvv := ho7.1
          have HVAL := Aside0.mk (show Kd.R (Kd.int .u8) 5 W8 w.heap.size (fun k => wr.heap.size ≤ k) (.slice A7 n2 c7) ((rest.take (n1 + n2)).drop n1) from Kd.R_lower (Kd.R_mono (Kd.R_bound ho7) (fun k hk => hk.2.1)) HB.out.size)
          have HSW := Aside0.mk (Kd.S_below HSR.out hb8)
          have HMP := Aside0.mk (show kB.M W8 w.heap.size (fun k => wr.heap.size ≤ k) (to47 (rrP last rest n0 n1 n2)) [.slice A6 (n0 + n1) c6, .slice A7 n2 c7] from ⟨k47_mkM W8 w.heap.size (fun k => wr.heap.size ≤ k) (to47 (rrP last rest n0 n1 n2)) HKEY.out HVAL.out, by
            intro x y he k hk
            injection he with he0 he1
            injection he1 with he1 _
            subst he0; subst he1
            exact hvv k hk⟩)
          have HBW := Aside0.mk (HB.out.trans (hb8.mono HB.out.size))
          have p0 : W8.cell? ⟨gp, 0, none⟩ = some (.slice A6 (n0 + n1) c6) := (blk_cell hbp 0).trans rfl
          have p1 : W8.cell? ⟨gp, 1, none⟩ = some (.slice A7 n2 c7) := (blk_cell hbp 1).trans rfl
          clear hW8 hb8 hbp hb7 ho6 ho7 hvv hca hfa kn1 kn2
          go_wp2_with (first
            | ((with_reducible refine gate_builtin (b := .append) (xs := #[.tmp 81, .tmp 83]) rfl ?_); at_builtin; refine Kd.S_append kB (w0 := w) w.heap.size rfl (.tmp 81) (.tmp 83) 30 47 (.agg #[.slice none 0 0, .slice none 0 0]) 48 rfl Try.underlying30 info47 rfl (by decide) (by omega) (.slice AO out.length c4) (out.map to47) (to47 (rrP last rest n0 n1 n2)) _ (fun _ => True) (fun k => wr.heap.size ≤ k) rfl rfl ?hp ?hokp (fun _ _ => trivial) ?HO ?HB ?hbase ?hl ?_; (case hp => exact HMP.out); (case hokp => exact fun k hk => ⟨trivial, fun e_ => by have h_ := Kd.S_lt HS.out k e_.symm; omega⟩); (case HO => exact Kd.S_mono HSW.out (fun k hk => ⟨trivial, by omega⟩)); (case HB => exact HBW.out); (case hbase => exact HBW.out.size); (case hl => have := HN.out; rw [List.length_map]; omega); intro v9 w9 ho hb hg hat; have hgo := Kd.S_lt HS.out; have hb7 := blk_grown B78.out hg (fun e_ => by have h_ := hgo _ e_.symm; have := HG.out; omega); have hbp := blk_grown BP8.out hg (fun e_ => by have h_ := hgo _ e_.symm; have := HG.out; omega); have kp0 : w9.cell? ⟨gp, 0, none⟩ = some (.slice A6 (n0 + n1) c6) := (blk_cell hbp 0).trans rfl; have kn1 : w9.cell? ⟨g7, 1, none⟩ = some (.int .i64 m1) := (blk_cell hb7 1).trans rfl; have kn2 : w9.cell? ⟨g7, 2, none⟩ = some (.int .i64 m2) := (blk_cell hb7 2).trans rfl; have HS9 := Aside0.mk ho; have HB9 := Aside0.mk hb; have HK9 := Aside0.mk (Kd.R_step HKEY.out (fun k hk hlt => hg.block k hlt (fun e_ => by have h_ := hgo _ e_.symm; omega))); clear ho hb hg hat hgo hb7 hbp p0 p1))
          go_roundg r
          case measure => have := HJ.out.1; have := HN.out; have := HRR.out.1; omega
          case rel =>
            refine ⟨A4, rest.drop (n1 + n2), c2 - (n1 + n2), last.take n0 ++ rest.take n1, out ++ [rrP last rest n0 n1 n2], by rw [HL4.out.2.2.2.1], ⟨HL4.out.2.2.2.1.symm, by rw [HL4.out.2.2.2.1]; exact HL4.out.2.2.2.2, ?_, ?_, fun x hx => HRB.out x (List.mem_of_mem_drop hx), ?_⟩, ⟨fun W hC => by rw [HL4.out.2.2.2.1]; exact HA4.out W hC⟩, ⟨by rw [List.map_append]; exact HS9.out⟩, ⟨Kd.R_mono HK9.out (fun _ _ => trivial)⟩, HB9⟩
            · have := HN.out; rw [List.length_append]; simp; omega
            · have := HN.out; rw [List.length_append, HL4.out.1, HL4.out.2.1]; omega
            · rw [HE.out]
              refine rr_fuel _ _ _ _ _ (fun x hx => HRB.out x (List.mem_of_mem_drop hx)) (by omega) ?_
              have := HN.out
              rw [List.length_drop]; omega
theorem rickyardref09_Read.calls (A : Option Addr) (c : Nat) (b : List Int) (r1 : List Pq) (r2 : Int) (w : World) (hr0 : Kd.C (Kd.int .u8) w A b.length b) (hc0 : b.length ≤ c) (h : rickyardref09_Read.f b = some (r1, r2)) :
    Calls Try.prog 20 #[.slice A b.length c] w fun e w' => ∃ v0_ : Value, e = .returned (.tuple #[v0_, .int .i64 r2]) ∧ Kd.S k47 47 w' w.heap.size (fun _ => True) v0_ r1 ∧ Below w.heap.size w w' := by
  refine (rickyardref09_Read.callsB A c b r1 r2 w hr0 hc0 h).mono ?_
  rintro e w' ⟨v, he, hs, hb⟩
  exact ⟨v, he, S_of_B hs, hb⟩
end Go.Proofs.Yticddiiigfkamaa.P
