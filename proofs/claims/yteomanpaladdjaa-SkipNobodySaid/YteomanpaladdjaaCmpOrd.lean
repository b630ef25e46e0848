/- The order of bytes is an order. No conditions. -/
import Derived.Test.YteomanpaladdjaaPx0
import Derived.Laws.Externs
import Derived.Lib.BytesEntry
import Derived.Deep.QuietTactic
namespace Go.Proofs.Yteomanpaladdjaa.P
open Go.RowKit Go.Proofs.YteomanpaladdjaaW.PrintWords Go.Proofs.YteomanpaladdjaaW.PrintLast Go.Proofs.YteomanpaladdjaaW.PrintMore
set_option linter.unusedVariables false
set_option linter.unusedSimpArgs false

theorem w64_pred {i : Nat} (h : i < 9223372036854775807) : wrap64 (((i + 1 : Nat) : Int) - 1) = (i : Int) := by unfold wrap64; omega
theorem w64_succ {i : Nat} (h : i < 9223372036854775807) : wrap64 ((i : Int) + 1) = ((i + 1 : Nat) : Int) := by unfold wrap64; omega
/-- The order of bytes: -1, 0, 1. -/
def cmpI (a b : List Int) : Int := Lib.compareBytes (Lib.bytesOf a) (Lib.bytesOf b)
theorem run_bytesOf {w : World} {A : Option Addr} {c : Nat} {l : List Int} (h : Kd.C (Kd.int .u8) w A l.length l) :
    (Extern.Bytes.bytesOf (.slice A l.length c)).run Try.prog w = .ok ⟨(Lib.bytesOf l).toArray⟩ w := by
  obtain ⟨_, _, hc⟩ := Kd.reads_of_C (d := (0 : Int)) h
  have e0 : (⟨ByteArray.empty.data ++ (Lib.bytesOf l).toArray⟩ : ByteArray) = ⟨(Lib.bytesOf l).toArray⟩ := by
    apply ByteArray.ext
    show (#[] : Array UInt8) ++ (Lib.bytesOf l).toArray = (Lib.bytesOf l).toArray
    simp
  cases A with
  | none =>
    have hl : l = [] := by
      cases l with
      | nil => rfl
      | cons x l => obtain ⟨_, e, _⟩ := hc (by simp); cases e
    subst hl
    rfl
  | some a =>
    show (Extern.Bytes.loadBytes a l.length .empty).run Try.prog w = _
    rw [Lib.run_loadBytesX w l a .empty (fun j x hj => ?_), e0]
    have hjl := (List.getElem?_eq_some_iff.1 hj).1
    obtain ⟨a', e, hc⟩ := hc (by omega)
    cases e
    have := hc j hjl
    rw [this]
    simp [rdOf, hj, List.getD_eq_getElem?_getD]
def compareEntry : Array Value → Sem Value := Extern.BytealgCompare.compare
theorem run_compare {w : World} {A B : Option Addr} {c d : Nat} {a b : List Int} (ha : Kd.C (Kd.int .u8) w A a.length a) (hb : Kd.C (Kd.int .u8) w B b.length b) :
    (callFunc 43 #[.slice A a.length c, .slice B b.length d]).run Try.prog w = .ok (.value (.int .i64 (cmpI a b))) w := by
  rw [run_callFunc_extern (fn := Try.f43) (by kernel_rfl) (by kernel_rfl) (by kernel_rfl) (by kernel_rfl) (e := compareEntry) (by kernel_rfl)]
  change ((Sem.run Try.prog (do pure (goInt (Extern.BytealgCompare.cmp (← Extern.Bytes.bytesOf (.slice A a.length c)) (← Extern.Bytes.bytesOf (.slice B b.length d))))) w).andThen _) = _
  simp only [Sem.run_bind, Sem.run_pure, run_bytesOf ha, run_bytesOf hb, Result.andThen]
  rw [Lib.cmp_eq]
  rfl

def bytes_Compare.f (l0 l1 : List Int) : Option Int := some (cmpI l0 l1)
theorem bytes_Compare.calls (A0 : Option Addr) (c0 : Nat) (l0 : List Int) (A1 : Option Addr) (c1 : Nat) (l1 : List Int) (r : Int) (w : World) (hr0 : Kd.C (Kd.int .u8) w A0 l0.length l0) (hc0 : l0.length ≤ c0) (hr1 : Kd.C (Kd.int .u8) w A1 l1.length l1) (hc1 : l1.length ≤ c1) (h : bytes_Compare.f l0 l1 = some r) :
    Calls Try.prog 40 #[.slice A0 l0.length c0, .slice A1 l1.length c1] w fun e w' => e = .returned (.int .i64 r) ∧ Drawn0 w w' := by
  obtain rfl := Option.some.inj h
  have hrun := run_compare (c := c0) (d := c1) hr0 hr1
  clear h hr0 hr1 hc0 hc1
  go_enter Try.func40, Try.ntmps40
  go_wp2
  go_ret
  exact ⟨rfl, Drawn0.refl _⟩

/-- The same, in a region that draws. -/
theorem cmp_quiet {A0 : Option Addr} {c0 : Nat} {l0 : List Int} {A1 : Option Addr} {c1 : Nat} {l1 : List Int} {w : World} (hr0 : Kd.C (Kd.int .u8) w A0 l0.length l0) (hc0 : l0.length ≤ c0) (hr1 : Kd.C (Kd.int .u8) w A1 l1.length l1) (hc1 : l1.length ≤ c1) (n : Nat) :
    Calls Try.prog 40 #[.slice A0 l0.length c0, .slice A1 l1.length c1] (w.drewN n) fun e w'' => e = .returned (.int .i64 (cmpI l0 l1)) ∧ ∃ m, w'' = w.drewN m := by
  refine Calls.quiet_of ?_
  refine (bytes_Compare.calls A0 c0 l0 A1 c1 l1 _ (w.drewN n) (Kd.C_below hr0 (pw_below_drewN (Below.refl _ _) n)) hc0 (Kd.C_below hr1 (pw_below_drewN (Below.refl _ _) n)) hc1 rfl).mono ?_
  rintro e w' ⟨rfl, hd⟩
  exact ⟨rfl, hd.out⟩

end Go.Proofs.Yteomanpaladdjaa.P
namespace Go.Proofs.Yteomanpaladdjaa.P
open Go.RowKit Go.Proofs.YteomanpaladdjaaW.PrintWords Go.Proofs.YteomanpaladdjaaW.PrintLast Go.Proofs.YteomanpaladdjaaW.PrintMore
set_option linter.unusedVariables false
set_option linter.unusedSimpArgs false

theorem cmpL_range : ∀ a b : List UInt8, Lib.compareBytes a b = -1 ∨ Lib.compareBytes a b = 0 ∨ Lib.compareBytes a b = 1
  | [], [] => by simp [Lib.compareBytes]
  | [], _ :: _ => by simp [Lib.compareBytes]
  | _ :: _, [] => by simp [Lib.compareBytes]
  | a :: x, b :: y => by
    unfold Lib.compareBytes
    split
    · simp
    · split
      · simp
      · exact cmpL_range x y
theorem cmpL_anti : ∀ a b : List UInt8, Lib.compareBytes a b = - Lib.compareBytes b a
  | [], [] => by simp [Lib.compareBytes]
  | [], _ :: _ => by simp [Lib.compareBytes]
  | _ :: _, [] => by simp [Lib.compareBytes]
  | a :: x, b :: y => by
    unfold Lib.compareBytes
    by_cases h : a < b
    · have : ¬ b < a := fun h2 => absurd (UInt8.lt_trans h h2) (UInt8.lt_irrefl _)
      rw [if_pos h, if_neg this, if_pos h]
    · rw [if_neg h]
      by_cases h2 : b < a
      · rw [if_pos h2, if_pos h2]; rfl
      · rw [if_neg h2, if_neg h2, if_neg h]; exact cmpL_anti x y
theorem cmpL_zero : ∀ a b : List UInt8, Lib.compareBytes a b = 0 ↔ a = b
  | [], [] => by simp [Lib.compareBytes]
  | [], _ :: _ => by simp [Lib.compareBytes]
  | _ :: _, [] => by simp [Lib.compareBytes]
  | a :: x, b :: y => by
    unfold Lib.compareBytes
    by_cases h : a < b
    · rw [if_pos h]
      have : a ≠ b := by rintro rfl; exact UInt8.lt_irrefl _ h
      simp [this]
    · rw [if_neg h]
      by_cases h2 : b < a
      · rw [if_pos h2]
        have : a ≠ b := by rintro rfl; exact UInt8.lt_irrefl _ h2
        simp [this]
      · rw [if_neg h2, cmpL_zero x y]
        have : a = b := UInt8.le_antisymm (UInt8.not_lt.1 h2) (UInt8.not_lt.1 h)
        simp [this]
theorem cmpL_trans : ∀ a b c : List UInt8, Lib.compareBytes a b < 0 → Lib.compareBytes b c < 0 → Lib.compareBytes a c < 0
  | a, [], c, h, _ => by cases a <;> simp [Lib.compareBytes] at h
  | [], _ :: _, [], _, h => by simp [Lib.compareBytes] at h
  | [], _ :: _, _ :: _, _, _ => by simp [Lib.compareBytes]
  | a :: x, b :: y, [], _, h => by simp [Lib.compareBytes] at h
  | a :: x, b :: y, c :: z, h1, h2 => by
    unfold Lib.compareBytes at h1 h2 ⊢
    by_cases ab : a < b
    · by_cases bc : b < c
      · rw [if_pos (UInt8.lt_trans ab bc)]; decide
      · rw [if_neg bc] at h2
        by_cases cb : c < b
        · rw [if_pos cb] at h2; simp at h2
        · have : b = c := UInt8.le_antisymm (UInt8.not_lt.1 cb) (UInt8.not_lt.1 bc)
          subst this
          rw [if_pos ab]; decide
    · rw [if_neg ab] at h1
      by_cases ba : b < a
      · rw [if_pos ba] at h1; simp at h1
      · have : a = b := UInt8.le_antisymm (UInt8.not_lt.1 ba) (UInt8.not_lt.1 ab)
        subst this
        rw [if_neg ba] at h1
        by_cases bc : a < c
        · rw [if_pos bc]; decide
        · rw [if_neg bc] at h2 ⊢
          by_cases cb : c < a
          · rw [if_pos cb] at h2; simp at h2
          · rw [if_neg cb] at h2 ⊢
            exact cmpL_trans x y z h1 h2
theorem cmpI_range (a b : List Int) : cmpI a b = -1 ∨ cmpI a b = 0 ∨ cmpI a b = 1 := cmpL_range _ _
theorem cmpI_anti (a b : List Int) : cmpI a b = - cmpI b a := cmpL_anti _ _
theorem cmpI_trans {a b c : List Int} (h1 : cmpI a b < 0) (h2 : cmpI b c < 0) : cmpI a c < 0 := cmpL_trans _ _ _ h1 h2
theorem bytesOf_inj' : ∀ {a b : List Int}, (∀ x ∈ a, 0 ≤ x ∧ x < 256) → (∀ x ∈ b, 0 ≤ x ∧ x < 256) → Lib.bytesOf a = Lib.bytesOf b → a = b
  | [], [], _, _, _ => rfl
  | [], _ :: _, _, _, h => by simp [Lib.bytesOf] at h
  | _ :: _, [], _, _, h => by simp [Lib.bytesOf] at h
  | x :: a, y :: b, ha, hb, h => by
    simp only [Lib.bytesOf, List.map_cons, List.cons.injEq] at h
    have hx := ha x (by simp)
    have hy := hb y (by simp)
    have e := congrArg UInt8.toNat h.1
    simp only [UInt8.toNat_ofNat'] at e
    have : x = y := by omega
    rw [this, bytesOf_inj' (fun z hz => ha z (by simp [hz])) (fun z hz => hb z (by simp [hz])) h.2]
theorem cmpI_zero' (a b : List Int) : cmpI a b = 0 ↔ Lib.bytesOf a = Lib.bytesOf b := cmpL_zero _ _
theorem cmpI_self (a : List Int) : cmpI a a = 0 := (cmpI_zero' a a).2 rfl
theorem cmpI_zero {a b : List Int} (ha : ∀ x ∈ a, 0 ≤ x ∧ x < 256) (hb : ∀ x ∈ b, 0 ≤ x ∧ x < 256) : cmpI a b = 0 ↔ a = b :=
  (cmpI_zero' a b).trans ⟨bytesOf_inj' ha hb, fun h => by rw [h]⟩
/-- From a below b, b not above c: a below c. -/
theorem cmpI_lt_le {a b c : List Int} (h1 : cmpI a b < 0) (h2 : cmpI b c ≤ 0) : cmpI a c < 0 := by
  rcases Int.lt_or_eq_of_le h2 with h | h
  · exact cmpI_trans h1 h
  · unfold cmpI at *
    rw [← (cmpL_zero _ _).1 h]; exact h1
theorem cmpI_le_lt {a b c : List Int} (h1 : cmpI a b ≤ 0) (h2 : cmpI b c < 0) : cmpI a c < 0 := by
  rcases Int.lt_or_eq_of_le h1 with h | h
  · exact cmpI_trans h h2
  · unfold cmpI at *
    rw [(cmpL_zero _ _).1 h]; exact h2
theorem cmpI_le_trans {a b c : List Int} (h1 : cmpI a b ≤ 0) (h2 : cmpI b c ≤ 0) : cmpI a c ≤ 0 := by
  rcases Int.lt_or_eq_of_le h1 with h | h
  · exact Int.le_of_lt (cmpI_lt_le h h2)
  · unfold cmpI at *
    rw [(cmpL_zero _ _).1 h]; exact h2
theorem cmpI_neg {a b : List Int} : cmpI a b < 0 ↔ 0 < cmpI b a := by have := cmpI_anti a b; omega
theorem ltB_cmpL : ∀ (a b : List UInt8), Op.bytesLess a b = decide (Lib.compareBytes a b < 0)
  | [], [] => rfl
  | [], _ :: _ => rfl
  | _ :: _, [] => rfl
  | a :: x, b :: y => by
    rw [Op.bytesLess, Lib.compareBytes, ltB_cmpL x y]
    by_cases h : a < b
    · rw [if_pos h]; simp [h]
    · rw [if_neg h]
      by_cases h2 : b < a
      · rw [if_pos h2]
        have : a ≠ b := by rintro rfl; exact h h2
        simp [h, this]
      · rw [if_neg h2]
        have : a = b := UInt8.le_antisymm (UInt8.not_lt.1 h2) (UInt8.not_lt.1 h)
        simp [h, this]
/-- Strings' order, equality. -/
theorem str_lt (a b : List Int) : Op.bytesLess (strOfNums a).toList (strOfNums b).toList = decide (cmpI a b < 0) := by
  rw [ltB_cmpL, Go.Lib.strOfNums_toList, Go.Lib.strOfNums_toList]
  rfl
theorem str_eq0 (a b : List Int) : (strOfNums a).toList = (strOfNums b).toList ↔ cmpI a b = 0 := by
  rw [Go.Lib.strOfNums_toList, Go.Lib.strOfNums_toList]
  exact (cmpI_zero' a b).symm
theorem str_beq (a b : List Int) : ((strOfNums a).toList == (strOfNums b).toList) = decide (cmpI a b = 0) := by
  by_cases h : cmpI a b = 0
  · rw [beq_iff_eq.2 ((str_eq0 a b).2 h), decide_eq_true h]
  · rw [beq_eq_false_iff_ne.2 (fun e => h ((str_eq0 a b).1 e)), decide_eq_false h]
end Go.Proofs.Yteomanpaladdjaa.P
