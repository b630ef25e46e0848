/- code.ReadShort: a short number of at most 4096, or none. No conditions. -/
import Derived.Test.YticddiiigfkamaaPx0
import Derived.Scope
import Derived.WalkMore
import Derived.Test.YticddiiigfkamaaBkSpec
import Derived.Laws.Shifts
namespace Go.Proofs.Yticddiiigfkamaa.P
open Go

/-- As Q; by a goto to label l: J l. -/
def jumpsTo (J : Nat → Act → World → Prop) (Q : Exit → Act → World → Prop) : Exit → Act → World → Prop
  | .goto l, a, w => J l a w
  | e, a, w => Q e a w
section
variable {P : Program} {a : Act} {w : World} {Q : Exit → Act → World → Prop}
theorem wp_scope_any {c : Code} (J : Nat → Act → World → Prop) (μ : Nat → Act → World → Nat) (N : Nat) (first : c.wp P (jumpsTo (fun l' a' w' => J l' a' w' ∧ μ l' a' w' < N) Q) a w)
    (pass : ∀ l a w, J l a w → ∃ rest, findLabel c l = some rest ∧ rest.wp P (jumpsTo (fun l' a' w' => J l' a' w' ∧ μ l' a' w' < μ l a w) Q) a w) : (Code.scope c).wp P Q a w := by
  intro b k cs
  have key : ∀ n l a w, μ l a w = n → J l a w → ∃ rest, findLabel c l = some rest ∧ ∃ e a' w', Q e a' w' ∧ Arrives P (lone (b.at a (.code rest :: .inScope c :: k)) cs w) b k cs e a' w' := by
    intro n
    induction n using Nat.strongRecOn with
    | _ n ih =>
      intro l a w hn hJ
      obtain ⟨rest, hf, hp⟩ := pass l a w hJ
      refine ⟨rest, hf, ?_⟩
      obtain ⟨e, a₁, w₁, hq, harr⟩ := hp b (.inScope c :: k) cs
      cases e with
      | normal => exact ⟨.normal, a₁, w₁, hq, Steps.trans harr (.one step_inScope)⟩
      | exit id => exact ⟨.exit id, a₁, w₁, hq, fun k' hk => harr k' (by simp [exitTo, hk])⟩
      | goto l' =>
        obtain ⟨hJ', hlt⟩ := hq
        obtain ⟨rest', hf', e₂, a₂, w₂, hq₂, harr₂⟩ := ih _ (by omega) l' a₁ w₁ rfl hJ'
        exact ⟨e₂, a₂, w₂, hq₂, .of_steps (harr _ (by simp [gotoIn, hf'])) harr₂⟩
      | ret => exact ⟨_, a₁, w₁, hq, harr⟩
      | panic ch => exact ⟨_, a₁, w₁, hq, harr⟩
      | outgrown => exact ⟨_, a₁, w₁, hq, harr⟩
  obtain ⟨e, a₁, w₁, hq, harr⟩ := first b (.inScope c :: k) cs
  cases e with
  | normal => exact ⟨.normal, a₁, w₁, hq, .head step_scope (Steps.trans harr (.one step_inScope))⟩
  | exit id => exact ⟨.exit id, a₁, w₁, hq, fun k' hk => .head step_scope (harr k' (by simp [exitTo, hk]))⟩
  | goto l' =>
    obtain ⟨rest', hf', e₂, a₂, w₂, hq₂, harr₂⟩ := key _ l' a₁ w₁ rfl hq.1
    exact ⟨e₂, a₂, w₂, hq₂, .of_steps (.head step_scope (harr _ (by simp [gotoIn, hf']))) harr₂⟩
  | ret => exact ⟨_, a₁, w₁, hq, .of_steps (.one step_scope) harr⟩
  | panic ch => exact ⟨_, a₁, w₁, hq, .of_steps (.one step_scope) harr⟩
  | outgrown => exact ⟨_, a₁, w₁, hq, .of_steps (.one step_scope) harr⟩
end
end Go.Proofs.Yticddiiigfkamaa.P
namespace Go.Proofs.Yticddiiigfkamaa.P
open Go.RowKit Go.Proofs.YticddiiigfkamaaW.PrintWords Go.Proofs.YticddiiigfkamaaW.PrintLast Go.Proofs.YticddiiigfkamaaW.PrintMore
set_option linter.unusedVariables false
set_option linter.unusedSimpArgs false

def rs2 (c : Int) : List Int → Option (Nat × Nat)
  | [] => none
  | d :: _ => if 128 ≤ d then none else if d = 0 then none else if (c % 128).toNat + 128 * d.toNat ≤ 4096 then some ((c % 128).toNat + 128 * d.toNat, 2) else none
/-- What is read: a number of at most 4096 and how many bytes it takes. -/
def rs : List Int → Option (Nat × Nat)
  | [] => none
  | c :: t => if c < 128 then some (c.toNat, 1) else rs2 c t
def RsP (l : List Int) (v u e : Int) : Prop := 0 ≤ v ∧ match rs l with | some (a, b) => v = a ∧ u = b ∧ e = 0 | none => e ≠ 0 ∨ 4096 < v
theorem and_127 (n : Nat) (h : n < 256) : Go.bits .and .u8 (n : Int) 127 = ((n % 128 : Nat) : Int) := by
  have : ∀ m : Fin 256, Go.bits .and .u8 (m.val : Int) 127 = ((m.val % 128 : Nat) : Int) := by decide +kernel
  exact this ⟨n, h⟩
theorem or_ge (x y : Nat) (hx : x < 18446744073709551616) (hy : y < 18446744073709551616) : ∃ z : Nat, Go.bits .or .u64 (x : Int) (y : Int) = (z : Int) ∧ y ≤ z ∧ z < 18446744073709551616 ∧ (x = 0 → z = y) ∧ (x < 128 → y % 128 = 0 → z = x + y) := by
  have e1 : (BitVec.ofInt 64 (x : Int)).toNat = x := by rw [BitVec.toNat_ofInt]; omega
  have e2 : (BitVec.ofInt 64 (y : Int)).toNat = y := by rw [BitVec.toNat_ofInt]; omega
  have hlt : x ||| y < 18446744073709551616 := Nat.or_lt_two_pow (n := 64) hx hy
  have e3 : Go.bits .or .u64 (x : Int) (y : Int) = ((x ||| y : Nat) : Int) := by
    show IntKind.u64.wrap ((BitVec.ofInt 64 (x : Int) ||| BitVec.ofInt 64 (y : Int)).toNat : Int) = _
    rw [BitVec.toNat_or, e1, e2, IntKind.wrap_u64]
    omega
  refine ⟨x ||| y, e3, Nat.right_le_or, hlt, fun h => by rw [h, Nat.zero_or], fun h1 h2 => ?_⟩
  obtain ⟨q, rfl⟩ : ∃ q, y = 2 ^ 7 * q := ⟨y / 128, by omega⟩
  rw [Nat.or_comm, ← Nat.two_pow_add_eq_or_of_lt (i := 7) h1, Nat.add_comm]
/-- What stands when the next byte, the i-th, is to be read. -/
structure RsI (l : List Int) (i : Nat) (v : Nat) : Prop where
  le : i ≤ l.length
  nine : i ≤ 9
  cont : ∀ j, j < i → 128 ≤ l.getD j 0
  v0 : i = 0 → v = 0
  v1 : i = 1 → v = (l.getD 0 0 % 128).toNat
  lt : v < 18446744073709551616
/-- What one byte more tells. -/
structure RsN (l : List Int) (i v : Nat) (c : Nat) (z v2 : Int) : Prop where
  wz : IntKind.u64.wrap ((c % 128 : Nat) * 2 ^ min (7 * i) 64 : Int) = z
  wo : Go.bits .or .u64 (v : Int) z = v2
  n0 : 0 ≤ v2
  lt : v2 < 18446744073709551616
  go : 128 ≤ c → i < 9 → RsI l (i + 1) v2.toNat
  fin : c < 128 → (c = 0 ∧ 1 ≤ i → rs l = none) ∧ (¬ (c = 0 ∧ 1 ≤ i) → (i = 9 → c ≤ 1) → RsP l v2 ((i + 1 : Nat) : Int) 0)
theorem rs_short {l : List Int} {i v : Nat} (h : RsI l i v) (hi : i = l.length) : rs l = none := by
  match l, h, hi with
  | [], _, _ => rfl
  | [c], h, hi =>
    have := h.cont 0 (by simp at hi; omega)
    have h2 : 128 ≤ c := by simpa using this
    rw [rs, if_neg (by omega)]; rfl
  | c :: d :: t, h, hi =>
    have h1 : 128 ≤ c := by simpa using h.cont 0 (by simp at hi; omega)
    have h2 : 128 ≤ d := by simpa using h.cont 1 (by simp at hi; omega)
    rw [rs, if_neg (by omega), rs2, if_pos h2]
theorem rs_long {l : List Int} {i v : Nat} (h : RsI l i v) (hi : 2 ≤ i) : rs l = none := by
  match l, h with
  | [], _ => rfl
  | [c], h => have := h.le; simp at this; omega
  | c :: d :: t, h =>
    have h1 : 128 ≤ c := by simpa using h.cont 0 (by omega)
    have h2 : 128 ≤ d := by simpa using h.cont 1 (by omega)
    rw [rs, if_neg (by omega), rs2, if_pos h2]
theorem rs_step {l : List Int} {i v c : Nat} (h : RsI l i v) (hc : l[i]? = some (c : Int)) (hc2 : c < 256) : ∃ z v2 : Int, RsN l i v c z v2 := by
  have hil := (List.getElem?_eq_some_iff.1 hc).1
  have hgc : l.getD i 0 = (c : Int) := by rw [List.getD_eq_getElem?_getD, hc]; rfl
  obtain ⟨p, hp⟩ : ∃ p : Nat, c % 128 * 2 ^ min (7 * i) 64 = p := ⟨_, rfl⟩
  have hnine := h.nine
  have hmin : min (7 * i) 64 = 7 * i := by omega
  have hpc : ((c % 128 : Nat) * 2 ^ min (7 * i) 64 : Int) = (p : Int) := by rw [← hp]; simp
  have hpz : IntKind.u64.wrap (p : Int) = ((p % 18446744073709551616 : Nat) : Int) := by rw [IntKind.wrap_u64]; omega
  obtain ⟨zz, hzz⟩ : ∃ zz : Nat, p % 18446744073709551616 = zz := ⟨_, rfl⟩
  obtain ⟨q, e1, e2, e3, e4, e5⟩ := or_ge v zz h.lt (by omega)
  refine ⟨zz, q, by rw [hpc, hpz, hzz], e1, by omega, by omega, fun hc128 hi9 => ⟨by omega, by omega, fun j hj => ?_, fun h0 => by omega, fun h1 => ?_, by omega⟩, fun hc128 => ?_⟩
  · by_cases e : j = i
    · subst e; rw [hgc]; omega
    · exact h.cont j (by omega)
  · obtain rfl : i = 0 := by omega
    rw [hgc, Int.toNat_natCast, e4 (h.v0 rfl), ← hzz, ← hp]
    simp
    omega
  · refine ⟨fun hz => ?_, fun hz hn9 => ?_⟩
    · by_cases h2 : 2 ≤ i
      · exact rs_long h h2
      · obtain rfl : i = 1 := by omega
        match l, h, hc with
        | [], h, hc => simp at hc
        | [_], h, hc => simp at hc
        | a :: d :: t, h, hc =>
          have h1 : 128 ≤ a := by simpa using h.cont 0 (by omega)
          have h3 : d = 0 := by simp at hc; omega
          rw [rs, if_neg (by omega), rs2, if_neg (by omega), if_pos h3]
    · refine ⟨by omega, ?_⟩
      by_cases h2 : 2 ≤ i
      · rw [rs_long h h2]
        right
        have hcpos : 1 ≤ c := by omega
        have hpow : 2 ^ 14 ≤ 2 ^ (7 * i) := Nat.pow_le_pow_right (by decide) (by omega)
        have hplt : p < 18446744073709551616 := by
          rw [← hp, hmin]
          by_cases h9 : i = 9
          · have := hn9 h9
            have h63 : 2 ^ (7 * i) = 9223372036854775808 := by rw [h9]
            rw [h63]
            have : c % 128 ≤ 1 := by omega
            have := Nat.mul_le_mul_right 9223372036854775808 this
            omega
          · have h56 : 2 ^ (7 * i) ≤ 2 ^ 56 := Nat.pow_le_pow_right (by decide) (by omega)
            have h5 : c % 128 * 2 ^ (7 * i) ≤ 127 * 2 ^ 56 := Nat.mul_le_mul (by omega) h56
            have : (127 : Nat) * 2 ^ 56 = 9151314442816847872 := rfl
            omega
        have hpge : 16384 ≤ p := by
          rw [← hp, hmin]
          have : 1 * 2 ^ 14 ≤ c % 128 * 2 ^ (7 * i) := Nat.mul_le_mul (by omega) hpow
          have e : (1 : Nat) * 2 ^ 14 = 16384 := rfl
          omega
        omega
      · by_cases h1 : i = 0
        · subst h1
          have hv := h.v0 rfl
          have hq : q = c := by
            rw [e4 hv, ← hzz, ← hp]
            simp
            omega
          match l, hc with
          | [], hc => simp at hc
          | a :: t, hc =>
            have ha : a = (c : Int) := by simpa using hc
            rw [rs, if_pos (by omega), ha]
            exact ⟨by simp [hq], by simp⟩
        · obtain rfl : i = 1 := by omega
          match l, h, hc with
          | [], h, hc => simp at hc
          | [_], h, hc => simp at hc
          | a :: d :: t, h, hc =>
            have ha : 128 ≤ a := by simpa using h.cont 0 (by omega)
            have hv : v = (a % 128).toNat := by simpa using h.v1 rfl
            have hd : d = (c : Int) := by simpa using hc
            have hpe : p = c * 128 := by rw [← hp]; simp; omega
            have hq : q = v + 128 * c := by
              have := e5 (by omega) (by omega)
              omega
            have hc0 : c ≠ 0 := by omega
            rw [rs, if_neg (by omega), rs2, if_neg (by omega), if_neg (by omega), hd, Int.toNat_natCast, ← hv]
            by_cases hle : v + 128 * c ≤ 4096
            · rw [if_pos hle]; exact ⟨by omega, rfl, rfl⟩
            · rw [if_neg hle]; right; omega
theorem rs_nine {l : List Int} {v : Nat} (h : RsI l 9 v) : rs l = none := rs_long h (by decide)

/-- At each label. -/
def RsJ (A : Option Addr) (c : Nat) (l : List Int) (w : World) (lb : Nat) (a' : Act) (w' : World) : Prop :=
  w' = w ∧ ((lb = 1 ∧ ∃ (i v : Nat), RsI l i v ∧ ∃ u8 u9 u10 u11 u12 u13 u14 u15 u16 u17 u18 u19 u20 u21 u22 u23 u24 u25 u26 u27 u28 u29 u30 u31 u32 u33 u34 u35 u36 u37 u38 u39 u40 u41 u42 u43 u44 u45 u46 u47 u48 u49 u50 u51 u52 : Value, a' = { tmps := #[.slice A l.length c, undef, .int .u64 0, .int .i64 0, .int .i64 0, .int .u64 v, .int .i64 i, .int .i64 10, u8, u9, u10, u11, u12, u13, u14, u15, u16, u17, u18, u19, u20, u21, u22, u23, u24, u25, u26, u27, u28, u29, u30, u31, u32, u33, u34, u35, u36, u37, u38, u39, u40, u41, u42, u43, u44, u45, u46, u47, u48, u49, u50, u51, u52], defers := [] }) ∨ (lb = 0 ∧ rs l = none ∧ ∃ (ee : Int) (u5 u6 : Value), ee ≠ 0 ∧ ∃ u8 u9 u10 u11 u12 u13 u14 u15 u16 u17 u18 u19 u20 u21 u22 u23 u24 u25 u26 u27 u28 u29 u30 u31 u32 u33 u34 u35 u36 u37 u38 u39 u40 u41 u42 u43 u44 u45 u46 u47 u48 u49 u50 u51 u52 : Value, a' = { tmps := #[.slice A l.length c, undef, .int .u64 0, .int .i64 0, .int .i64 0, u5, u6, .int .i64 ee, u8, u9, u10, u11, u12, u13, u14, u15, u16, u17, u18, u19, u20, u21, u22, u23, u24, u25, u26, u27, u28, u29, u30, u31, u32, u33, u34, u35, u36, u37, u38, u39, u40, u41, u42, u43, u44, u45, u46, u47, u48, u49, u50, u51, u52], defers := [] }))
def intOf_ : Value → Int | .int _ q => q | _ => 0
def RsM (lb : Nat) (a' : Act) (w' : World) : Nat := if lb = 1 then 20 - (intOf_ (a'.tmps.getD 6 undef)).toNat else 0

theorem u64_small {x : Int} (h : 0 ≤ x ∧ x < 128) : IntKind.u64.wrap x = x := by rw [IntKind.wrap_u64]; omega
theorem rs_w7 {i : Nat} (h : i ≤ 9) : wrap64 (7 * (i : Int)) = 7 * (i : Int) := by unfold wrap64; omega
theorem rs_wi {i : Nat} (h : i ≤ 9) : wrap64 ((i : Int) + 1) = ((i + 1 : Nat) : Int) := by unfold wrap64; omega
theorem rs_wp {i : Nat} (h : i ≤ 9) : wrap64 (((i + 1 : Nat) : Int) - 1) = (i : Int) := by unfold wrap64; omega
theorem run_shl {P : Program} (x y z : Int) (h : 0 ≤ y) (hz : IntKind.u64.wrap (x * 2 ^ min y.toNat 64) = z) (W : World) : (Op.shift .shl .u64 x .i64 y).run P W = .ok (.int .u64 z) W := by
  have e : Op.shift .shl .u64 x .i64 y = pure (.int .u64 z) := by
    rw [shift_shl_any .u64 .i64 x y h, ← hz]
    rfl
  rw [e]; rfl
theorem RsM_zero (a' : Act) (w' : World) : RsM 0 a' w' = 0 := rfl
theorem RsM_one {a' : Act} {w' : World} {n : Nat} (h : a'.tmps.getD 6 undef = .int .i64 (n : Int)) : RsM 1 a' w' = 20 - n := by
  unfold RsM
  rw [if_pos rfl, h]
  show 20 - ((n : Int)).toNat = _
  rw [Int.toNat_natCast]
set_option maxHeartbeats 4000000 in
set_option maxRecDepth 100000 in
theorem rshort_calls (A : Option Addr) (c : Nat) (l : List Int) (w : World) (hr : Kd.C (Kd.int .u8) w A l.length l) (hc : l.length ≤ c) (hB : ∀ x ∈ l, 0 ≤ x ∧ x < 256) :
    Calls Try.prog 37 #[.slice A l.length c] w fun e w' => ∃ v u ee : Int, e = .returned (.tuple #[.int .u64 v, .int .i64 u, .int .i64 ee]) ∧ RsP l v u ee ∧ w' = w := by
  have HR := Aside0.mk hr
  have HBY := Aside0.mk hB
  have hm := hr.2.1
  have HM := Aside0.mk hm
  clear hr hc hB hm
  go_enter Try.func37, Try.ntmps37
  go_wp2
  refine wp_scope_any (RsJ A c l w) RsM 20 ?_ ?_
  · go_wp2
    go_step3
    rename_i hK_
    refine hK_ _ _ ?_
    refine (fun (H : ∀ i v : Nat, RsI l i v → Code.wp Try.prog _ _ { tmps := #[.slice A l.length c, undef, .int .u64 0, .int .i64 0, .int .i64 0, .int .u64 v, .int .i64 i, .int .i64 10, undef, undef, undef, undef, undef, undef, undef, undef, undef, undef, undef, undef, undef, undef, undef, undef, undef, undef, undef, undef, undef, undef, undef, undef, undef, undef, undef, undef, undef, undef, undef, undef, undef, undef, undef, undef, undef, undef, undef, undef, undef, undef, undef, undef, undef], defers := [] } w) => H 0 0 ⟨Nat.zero_le _, Nat.zero_le _, fun j hj => absurd hj (Nat.not_lt_zero _), fun _ => rfl, fun h => absurd h (by decide), by decide⟩) ?_
    intro i v hI
    have HI := Aside0.mk hI
    clear hI
    obtain ⟨w', rfl⟩ : ∃ w' : World, w' = w := ⟨_, rfl⟩
    obtain ⟨I, hI⟩ : ∃ I : Int, (i : Int) = I := ⟨_, rfl⟩
    have HI_ := Aside0.mk hI
    rw [hI]
    by_cases hil : i = l.length
    · have b0 : (I == (l.length : Int)) = true := beq_iff_eq.mpr (by omega)
      have b0p : (I = (l.length : Int)) = True := eq_true (by omega)
      have HIL := Aside0.mk hil
      clear hil hI
      go_wp2
      go_step3
      exact ⟨⟨rfl, .inr ⟨rfl, rs_short HI.out HIL.out, 10, _, _, by decide, _, _, _, _, _, _, _, _, _, _, _, _, _, _, _, _, _, _, _, _, _, _, _, _, _, _, _, _, _, _, _, _, _, _, _, _, _, _, _, _, _, _, _, _, _, rfl⟩⟩, by rw [RsM_zero]; have := HI.out.nine; omega⟩
    obtain ⟨cI, hcI⟩ : ∃ c, l[i]? = some c := ⟨_, List.getElem?_eq_getElem (by have := HI.out.le; omega)⟩
    have hcB := HBY.out cI (List.mem_of_getElem? hcI)
    obtain ⟨ch, rfl⟩ : ∃ n : Nat, cI = n := ⟨cI.toNat, by omega⟩
    obtain ⟨z, v2, hst⟩ := rs_step HI.out hcI (by omega)
    obtain ⟨ad, rfl, hcell⟩ := (Kd.reads_of_C (d := (0 : Int)) HR.out).2.2 (by have := HI.out.le; omega)
    have hcz := hcell i (by have := HI.out.le; omega)
    have hrd : rdOf (0 : Int) l (i : Int) = (ch : Int) := by unfold rdOf; rw [Int.toNat_natCast, List.getD_eq_getElem?_getD, hcI]; rfl
    first
      | rw [hrd] at hcz
      | rw [show l.getD i 0 = (ch : Int) by rw [List.getD_eq_getElem?_getD, hcI]; rfl] at hcz
    have b0 : (I == (l.length : Int)) = false := beq_eq_false_iff_ne.mpr (by omega)
    have b0p : (I = (l.length : Int)) = False := eq_false (by omega)
    have i1 : (0 ≤ I) = True := eq_true (by omega)
    have i2 : (I < (l.length : Int)) = True := eq_true (by have := HI.out.le; omega)
    have i3 : I.toNat = i := by omega
    have a1 : Go.bits .and .u8 (ch : Int) 127 = ((ch % 128 : Nat) : Int) := and_127 ch (by omega)
    have wz := hst.wz
    have wo := hst.wo
    obtain ⟨c7, hc7⟩ : ∃ x : Int, ((ch % 128 : Nat) : Int) = x := ⟨_, rfl⟩
    have hc70 : 0 ≤ c7 ∧ c7 < 128 := by omega
    obtain ⟨y7, hy7⟩ : ∃ x : Int, 7 * (i : Int) = x := ⟨_, rfl⟩
    have a4 : y7.toNat = 7 * i := by omega
    have a5 : 0 ≤ y7 := by omega
    obtain ⟨i', hi'⟩ : ∃ x : Int, ((i + 1 : Nat) : Int) = x := ⟨_, rfl⟩
    have HII := Aside0.mk hi'
    have HCH := Aside0.mk (show ch < 256 by omega)
    have a2 := u64_small hc70
    have a6 := rs_wi HI.out.nine
    have a7 := rs_wp HI.out.nine
    rw [hc7] at a1 wz
    have a3 : wrap64 (7 * I) = y7 := by rw [← hI, rs_w7 HI.out.nine, hy7]
    rw [hI, hi'] at a6
    rw [hi', hI] at a7
    obtain ⟨q, hq⟩ : ∃ q : Nat, v2 = q := ⟨v2.toNat, by have := hst.n0; omega⟩
    subst hq
    have HST := Aside0.mk hst
    have HIL := Aside0.mk hil
    have hsh := run_shl (P := Try.prog) c7 y7 z a5 (by rw [a4]; exact wz)
    clear hI hcI hcB hcell hrd hil hst hc7 hy7 hi' hc70 wz a4 a5
    by_cases h9 : i = 9 ∧ 1 < ch
    · have b9 : (I == 9) = true := beq_iff_eq.mpr (by have := HI_.out; omega)
      have b9p : (I = 9) = True := eq_true (by have := HI_.out; omega)
      have c1 : decide (1 < (ch : Int)) = true := decide_eq_true (by omega)
      have c1b : decide (1 < ch) = true := decide_eq_true h9.2
      have H9 := Aside0.mk h9
      clear h9
      go_wp2
      go_step3
      exact ⟨⟨rfl, .inr ⟨rfl, rs_long HI.out (by have := H9.out; omega), 11, _, _, by decide, _, _, _, _, _, _, _, _, _, _, _, _, _, _, _, _, _, _, _, _, _, _, _, _, _, _, _, _, _, _, _, _, _, _, _, _, _, _, _, _, _, _, _, _, _, rfl⟩⟩, by rw [RsM_zero]; have := HI.out.nine; omega⟩
    by_cases hi9 : i = 9
    · have b9 : (I == 9) = true := beq_iff_eq.mpr (by have := HI_.out; omega)
      have b9p : (I = 9) = True := eq_true (by have := HI_.out; omega)
      have c1 : decide (1 < (ch : Int)) = false := decide_eq_false (by omega)
      have c1b : decide (1 < ch) = false := decide_eq_false (by omega)
      have h128 : ¬ 128 ≤ ch := by omega
      have hn9 : i = 9 → ch ≤ 1 := fun _ => by omega
      clear hi9 h9
      have c2 : decide (128 ≤ (ch : Int)) = false := decide_eq_false (by omega)
      have c2b : decide (128 ≤ ch) = false := decide_eq_false h128
      have HFIN := Aside0.mk (HST.out.fin (by omega))
      have HN9 := Aside0.mk hn9
      by_cases hz : ch = 0
      · have z1 : ((ch : Int) == 0) = true := beq_iff_eq.mpr (by omega)
        have z2 : ((ch : Int) = 0) = True := eq_true (by omega)
        have z3 : (ch = 0) = True := eq_true hz
        by_cases hi1 : 1 ≤ i
        · have d1 : decide (1 < i') = true := decide_eq_true (by have := HII.out; omega)
          have HZ := Aside0.mk (And.intro hz hi1)
          clear hz hi1 h128 hn9
          go_wp2
          go_step3
          exact ⟨⟨rfl, .inr ⟨rfl, HFIN.out.1 HZ.out, 3, _, _, by decide, _, _, _, _, _, _, _, _, _, _, _, _, _, _, _, _, _, _, _, _, _, _, _, _, _, _, _, _, _, _, _, _, _, _, _, _, _, _, _, _, _, _, _, _, _, rfl⟩⟩, by rw [RsM_zero]; have := HI.out.nine; omega⟩
        · have d1 : decide (1 < i') = false := decide_eq_false (by have := HII.out; omega)
          have HZ := Aside0.mk (show ¬ (ch = 0 ∧ 1 ≤ i) from fun h => hi1 h.2)
          clear hz hi1 h128 hn9
          go_wp2
          simp only [jumpsTo]
          rw [a6, ← HII.out]
          go_ret3
          exact ⟨_, _, _, rfl, HFIN.out.2 HZ.out HN9.out, rfl⟩
      · have z1 : ((ch : Int) == 0) = false := beq_eq_false_iff_ne.mpr (by omega)
        have z2 : ((ch : Int) = 0) = False := eq_false (by omega)
        have z3 : (ch = 0) = False := eq_false hz
        have HZ := Aside0.mk (show ¬ (ch = 0 ∧ 1 ≤ i) from fun h => hz h.1)
        clear hz h128 hn9
        go_wp2
        simp only [jumpsTo]
        rw [a6, ← HII.out]
        go_ret3
        exact ⟨_, _, _, rfl, HFIN.out.2 HZ.out HN9.out, rfl⟩
    have b9 : (I == 9) = false := beq_eq_false_iff_ne.mpr (by have := HI_.out; omega)
    have b9p : (I = 9) = False := eq_false (by have := HI_.out; omega)
    by_cases h128 : 128 ≤ ch
    · have c1 : decide (128 ≤ (ch : Int)) = true := decide_eq_true (by omega)
      have c1b : decide (128 ≤ ch) = true := decide_eq_true h128
      have HGO := Aside0.mk (HST.out.go h128 (by have := HI.out.nine; omega))
      clear hi9 h9 h128
      go_wp2
      go_step3
      rw [a6, ← HII.out]
      rw [Int.toNat_natCast] at HGO
      exact ⟨⟨rfl, .inl ⟨rfl, i + 1, q, HGO.out, _, _, _, _, _, _, _, _, _, _, _, _, _, _, _, _, _, _, _, _, _, _, _, _, _, _, _, _, _, _, _, _, _, _, _, _, _, _, _, _, _, _, _, _, _, rfl⟩⟩, by rw [RsM_one (n := i + 1) rfl]; have := HI.out.nine; omega⟩
    have hn9 : i = 9 → ch ≤ 1 := fun h => absurd h hi9
    clear hi9 h9
    have c2 : decide (128 ≤ (ch : Int)) = false := decide_eq_false (by omega)
    have c2b : decide (128 ≤ ch) = false := decide_eq_false h128
    have HFIN := Aside0.mk (HST.out.fin (by omega))
    have HN9 := Aside0.mk hn9
    by_cases hz : ch = 0
    · have z1 : ((ch : Int) == 0) = true := beq_iff_eq.mpr (by omega)
      have z2 : ((ch : Int) = 0) = True := eq_true (by omega)
      have z3 : (ch = 0) = True := eq_true hz
      by_cases hi1 : 1 ≤ i
      · have d1 : decide (1 < i') = true := decide_eq_true (by have := HII.out; omega)
        have HZ := Aside0.mk (And.intro hz hi1)
        clear hz hi1 h128 hn9
        go_wp2
        go_step3
        exact ⟨⟨rfl, .inr ⟨rfl, HFIN.out.1 HZ.out, 3, _, _, by decide, _, _, _, _, _, _, _, _, _, _, _, _, _, _, _, _, _, _, _, _, _, _, _, _, _, _, _, _, _, _, _, _, _, _, _, _, _, _, _, _, _, _, _, _, _, rfl⟩⟩, by rw [RsM_zero]; have := HI.out.nine; omega⟩
      · have d1 : decide (1 < i') = false := decide_eq_false (by have := HII.out; omega)
        have HZ := Aside0.mk (show ¬ (ch = 0 ∧ 1 ≤ i) from fun h => hi1 h.2)
        clear hz hi1 h128 hn9
        go_wp2
        simp only [jumpsTo]
        rw [a6, ← HII.out]
        go_ret3
        exact ⟨_, _, _, rfl, HFIN.out.2 HZ.out HN9.out, rfl⟩
    · have z1 : ((ch : Int) == 0) = false := beq_eq_false_iff_ne.mpr (by omega)
      have z2 : ((ch : Int) = 0) = False := eq_false (by omega)
      have z3 : (ch = 0) = False := eq_false hz
      have HZ := Aside0.mk (show ¬ (ch = 0 ∧ 1 ≤ i) from fun h => hz h.1)
      clear hz h128 hn9
      go_wp2
      simp only [jumpsTo]
      rw [a6, ← HII.out]
      go_ret3
      exact ⟨_, _, _, rfl, HFIN.out.2 HZ.out HN9.out, rfl⟩
  · rintro lb a' w' ⟨rfl, (⟨rfl, i, v, hI, u8, u9, u10, u11, u12, u13, u14, u15, u16, u17, u18, u19, u20, u21, u22, u23, u24, u25, u26, u27, u28, u29, u30, u31, u32, u33, u34, u35, u36, u37, u38, u39, u40, u41, u42, u43, u44, u45, u46, u47, u48, u49, u50, u51, u52, rfl⟩ | ⟨rfl, hn, ee, u5, u6, hee, u8, u9, u10, u11, u12, u13, u14, u15, u16, u17, u18, u19, u20, u21, u22, u23, u24, u25, u26, u27, u28, u29, u30, u31, u32, u33, u34, u35, u36, u37, u38, u39, u40, u41, u42, u43, u44, u45, u46, u47, u48, u49, u50, u51, u52, rfl⟩)⟩
    · have HI := Aside0.mk hI
      clear hI
      refine ⟨_, rfl, ?_⟩
      rw [RsM_one (n := i) rfl]
      obtain ⟨I, hI⟩ : ∃ I : Int, (i : Int) = I := ⟨_, rfl⟩
      have HI_ := Aside0.mk hI
      rw [hI]
      by_cases hil : i = l.length
      · have b0 : (I == (l.length : Int)) = true := beq_iff_eq.mpr (by omega)
        have b0p : (I = (l.length : Int)) = True := eq_true (by omega)
        have HIL := Aside0.mk hil
        clear hil hI
        go_wp2
        go_step3
        exact ⟨⟨rfl, .inr ⟨rfl, rs_short HI.out HIL.out, 10, _, _, by decide, _, _, _, _, _, _, _, _, _, _, _, _, _, _, _, _, _, _, _, _, _, _, _, _, _, _, _, _, _, _, _, _, _, _, _, _, _, _, _, _, _, _, _, _, _, rfl⟩⟩, by rw [RsM_zero]; have := HI.out.nine; omega⟩
      obtain ⟨cI, hcI⟩ : ∃ c, l[i]? = some c := ⟨_, List.getElem?_eq_getElem (by have := HI.out.le; omega)⟩
      have hcB := HBY.out cI (List.mem_of_getElem? hcI)
      obtain ⟨ch, rfl⟩ : ∃ n : Nat, cI = n := ⟨cI.toNat, by omega⟩
      obtain ⟨z, v2, hst⟩ := rs_step HI.out hcI (by omega)
      obtain ⟨ad, rfl, hcell⟩ := (Kd.reads_of_C (d := (0 : Int)) HR.out).2.2 (by have := HI.out.le; omega)
      have hcz := hcell i (by have := HI.out.le; omega)
      have hrd : rdOf (0 : Int) l (i : Int) = (ch : Int) := by unfold rdOf; rw [Int.toNat_natCast, List.getD_eq_getElem?_getD, hcI]; rfl
      first
        | rw [hrd] at hcz
        | rw [show l.getD i 0 = (ch : Int) by rw [List.getD_eq_getElem?_getD, hcI]; rfl] at hcz
      have b0 : (I == (l.length : Int)) = false := beq_eq_false_iff_ne.mpr (by omega)
      have b0p : (I = (l.length : Int)) = False := eq_false (by omega)
      have i1 : (0 ≤ I) = True := eq_true (by omega)
      have i2 : (I < (l.length : Int)) = True := eq_true (by have := HI.out.le; omega)
      have i3 : I.toNat = i := by omega
      have a1 : Go.bits .and .u8 (ch : Int) 127 = ((ch % 128 : Nat) : Int) := and_127 ch (by omega)
      have wz := hst.wz
      have wo := hst.wo
      obtain ⟨c7, hc7⟩ : ∃ x : Int, ((ch % 128 : Nat) : Int) = x := ⟨_, rfl⟩
      have hc70 : 0 ≤ c7 ∧ c7 < 128 := by omega
      obtain ⟨y7, hy7⟩ : ∃ x : Int, 7 * (i : Int) = x := ⟨_, rfl⟩
      have a4 : y7.toNat = 7 * i := by omega
      have a5 : 0 ≤ y7 := by omega
      obtain ⟨i', hi'⟩ : ∃ x : Int, ((i + 1 : Nat) : Int) = x := ⟨_, rfl⟩
      have HII := Aside0.mk hi'
      have HCH := Aside0.mk (show ch < 256 by omega)
      have a2 := u64_small hc70
      have a6 := rs_wi HI.out.nine
      have a7 := rs_wp HI.out.nine
      rw [hc7] at a1 wz
      have a3 : wrap64 (7 * I) = y7 := by rw [← hI, rs_w7 HI.out.nine, hy7]
      rw [hI, hi'] at a6
      rw [hi', hI] at a7
      obtain ⟨q, hq⟩ : ∃ q : Nat, v2 = q := ⟨v2.toNat, by have := hst.n0; omega⟩
      subst hq
      have HST := Aside0.mk hst
      have HIL := Aside0.mk hil
      have hsh := run_shl (P := Try.prog) c7 y7 z a5 (by rw [a4]; exact wz)
      clear hI hcI hcB hcell hrd hil hst hc7 hy7 hi' hc70 wz a4 a5
      by_cases h9 : i = 9 ∧ 1 < ch
      · have b9 : (I == 9) = true := beq_iff_eq.mpr (by have := HI_.out; omega)
        have b9p : (I = 9) = True := eq_true (by have := HI_.out; omega)
        have c1 : decide (1 < (ch : Int)) = true := decide_eq_true (by omega)
        have c1b : decide (1 < ch) = true := decide_eq_true h9.2
        have H9 := Aside0.mk h9
        clear h9
        go_wp2
        go_step3
        exact ⟨⟨rfl, .inr ⟨rfl, rs_long HI.out (by have := H9.out; omega), 11, _, _, by decide, _, _, _, _, _, _, _, _, _, _, _, _, _, _, _, _, _, _, _, _, _, _, _, _, _, _, _, _, _, _, _, _, _, _, _, _, _, _, _, _, _, _, _, _, _, rfl⟩⟩, by rw [RsM_zero]; have := HI.out.nine; omega⟩
      by_cases hi9 : i = 9
      · have b9 : (I == 9) = true := beq_iff_eq.mpr (by have := HI_.out; omega)
        have b9p : (I = 9) = True := eq_true (by have := HI_.out; omega)
        have c1 : decide (1 < (ch : Int)) = false := decide_eq_false (by omega)
        have c1b : decide (1 < ch) = false := decide_eq_false (by omega)
        have h128 : ¬ 128 ≤ ch := by omega
        have hn9 : i = 9 → ch ≤ 1 := fun _ => by omega
        clear hi9 h9
        have c2 : decide (128 ≤ (ch : Int)) = false := decide_eq_false (by omega)
        have c2b : decide (128 ≤ ch) = false := decide_eq_false h128
        have HFIN := Aside0.mk (HST.out.fin (by omega))
        have HN9 := Aside0.mk hn9
        by_cases hz : ch = 0
        · have z1 : ((ch : Int) == 0) = true := beq_iff_eq.mpr (by omega)
          have z2 : ((ch : Int) = 0) = True := eq_true (by omega)
          have z3 : (ch = 0) = True := eq_true hz
          by_cases hi1 : 1 ≤ i
          · have d1 : decide (1 < i') = true := decide_eq_true (by have := HII.out; omega)
            have HZ := Aside0.mk (And.intro hz hi1)
            clear hz hi1 h128 hn9
            go_wp2
            go_step3
            exact ⟨⟨rfl, .inr ⟨rfl, HFIN.out.1 HZ.out, 3, _, _, by decide, _, _, _, _, _, _, _, _, _, _, _, _, _, _, _, _, _, _, _, _, _, _, _, _, _, _, _, _, _, _, _, _, _, _, _, _, _, _, _, _, _, _, _, _, _, rfl⟩⟩, by rw [RsM_zero]; have := HI.out.nine; omega⟩
          · have d1 : decide (1 < i') = false := decide_eq_false (by have := HII.out; omega)
            have HZ := Aside0.mk (show ¬ (ch = 0 ∧ 1 ≤ i) from fun h => hi1 h.2)
            clear hz hi1 h128 hn9
            go_wp2
            simp only [jumpsTo]
            rw [a6, ← HII.out]
            go_ret3
            exact ⟨_, _, _, rfl, HFIN.out.2 HZ.out HN9.out, rfl⟩
        · have z1 : ((ch : Int) == 0) = false := beq_eq_false_iff_ne.mpr (by omega)
          have z2 : ((ch : Int) = 0) = False := eq_false (by omega)
          have z3 : (ch = 0) = False := eq_false hz
          have HZ := Aside0.mk (show ¬ (ch = 0 ∧ 1 ≤ i) from fun h => hz h.1)
          clear hz h128 hn9
          go_wp2
          simp only [jumpsTo]
          rw [a6, ← HII.out]
          go_ret3
          exact ⟨_, _, _, rfl, HFIN.out.2 HZ.out HN9.out, rfl⟩
      have b9 : (I == 9) = false := beq_eq_false_iff_ne.mpr (by have := HI_.out; omega)
      have b9p : (I = 9) = False := eq_false (by have := HI_.out; omega)
      by_cases h128 : 128 ≤ ch
      · have c1 : decide (128 ≤ (ch : Int)) = true := decide_eq_true (by omega)
        have c1b : decide (128 ≤ ch) = true := decide_eq_true h128
        have HGO := Aside0.mk (HST.out.go h128 (by have := HI.out.nine; omega))
        clear hi9 h9 h128
        go_wp2
        go_step3
        rw [a6, ← HII.out]
        rw [Int.toNat_natCast] at HGO
        exact ⟨⟨rfl, .inl ⟨rfl, i + 1, q, HGO.out, _, _, _, _, _, _, _, _, _, _, _, _, _, _, _, _, _, _, _, _, _, _, _, _, _, _, _, _, _, _, _, _, _, _, _, _, _, _, _, _, _, _, _, _, _, rfl⟩⟩, by rw [RsM_one (n := i + 1) rfl]; have := HI.out.nine; omega⟩
      have hn9 : i = 9 → ch ≤ 1 := fun h => absurd h hi9
      clear hi9 h9
      have c2 : decide (128 ≤ (ch : Int)) = false := decide_eq_false (by omega)
      have c2b : decide (128 ≤ ch) = false := decide_eq_false h128
      have HFIN := Aside0.mk (HST.out.fin (by omega))
      have HN9 := Aside0.mk hn9
      by_cases hz : ch = 0
      · have z1 : ((ch : Int) == 0) = true := beq_iff_eq.mpr (by omega)
        have z2 : ((ch : Int) = 0) = True := eq_true (by omega)
        have z3 : (ch = 0) = True := eq_true hz
        by_cases hi1 : 1 ≤ i
        · have d1 : decide (1 < i') = true := decide_eq_true (by have := HII.out; omega)
          have HZ := Aside0.mk (And.intro hz hi1)
          clear hz hi1 h128 hn9
          go_wp2
          go_step3
          exact ⟨⟨rfl, .inr ⟨rfl, HFIN.out.1 HZ.out, 3, _, _, by decide, _, _, _, _, _, _, _, _, _, _, _, _, _, _, _, _, _, _, _, _, _, _, _, _, _, _, _, _, _, _, _, _, _, _, _, _, _, _, _, _, _, _, _, _, _, rfl⟩⟩, by rw [RsM_zero]; have := HI.out.nine; omega⟩
        · have d1 : decide (1 < i') = false := decide_eq_false (by have := HII.out; omega)
          have HZ := Aside0.mk (show ¬ (ch = 0 ∧ 1 ≤ i) from fun h => hi1 h.2)
          clear hz hi1 h128 hn9
          go_wp2
          simp only [jumpsTo]
          rw [a6, ← HII.out]
          go_ret3
          exact ⟨_, _, _, rfl, HFIN.out.2 HZ.out HN9.out, rfl⟩
      · have z1 : ((ch : Int) == 0) = false := beq_eq_false_iff_ne.mpr (by omega)
        have z2 : ((ch : Int) = 0) = False := eq_false (by omega)
        have z3 : (ch = 0) = False := eq_false hz
        have HZ := Aside0.mk (show ¬ (ch = 0 ∧ 1 ≤ i) from fun h => hz h.1)
        clear hz h128 hn9
        go_wp2
        simp only [jumpsTo]
        rw [a6, ← HII.out]
        go_ret3
        exact ⟨_, _, _, rfl, HFIN.out.2 HZ.out HN9.out, rfl⟩
    · refine ⟨_, rfl, ?_⟩
      go_wp2
      simp only [jumpsTo]
      go_ret3
      exact ⟨_, _, _, rfl, ⟨Int.le_refl 0, by rw [hn]; exact .inl hee⟩, rfl⟩

end Go.Proofs.Yticddiiigfkamaa.P
