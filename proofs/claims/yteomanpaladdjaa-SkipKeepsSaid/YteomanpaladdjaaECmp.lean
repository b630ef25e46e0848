/- bytes.Compare: which of two rows of bytes is the greater one. No conditions. -/
import Derived.Test.YteomanpaladdjaaPx0
import Derived.Laws.Externs
import Derived.Lib.BytesEntry
import Derived.Deep.QuietTactic
namespace Go.Proofs.Yteomanpaladdjaa.P
open Go.RowKit Go.Proofs.YteomanpaladdjaaW.PrintWords Go.Proofs.YteomanpaladdjaaW.PrintLast Go.Proofs.YteomanpaladdjaaW.PrintMore
set_option linter.unusedVariables false
set_option linter.unusedSimpArgs false

theorem w64_pred {i : Nat} (h : i < 9223372036854775807) : wrap64 (((i + 1 : Nat) : Int) - 1) = (i : Int) := by unfold wrap64; omega
theorem w64_succ {i : Nat} (h : i < 9223372036854775807) : wrap64 ((i : Int) + 1) = ((i + 1 : Nat) : Int) := by unfold wrap64; omega
/-- The order of bytes: -1, 0, 1. -/
def cmpI (a b : List Int) : Int := Lib.compareBytes (Lib.bytesOf a) (Lib.bytesOf b)
theorem run_bytesOf {w : World} {A : Option Addr} {c : Nat} {l : List Int} (h : Kd.C (Kd.int .u8) w A l.length l) :
    (Extern.Bytes.bytesOf (.slice A l.length c)).run Try.prog w = .ok ⟨(Lib.bytesOf l).toArray⟩ w := by
  obtain ⟨_, _, hc⟩ := Kd.reads_of_C (d := (0 : Int)) h
  have e0 : (⟨ByteArray.empty.data ++ (Lib.bytesOf l).toArray⟩ : ByteArray) = ⟨(Lib.bytesOf l).toArray⟩ := by
    apply ByteArray.ext
    show (#[] : Array UInt8) ++ (Lib.bytesOf l).toArray = (Lib.bytesOf l).toArray
    simp
  cases A with
  | none =>
    have hl : l = [] := by
      cases l with
      | nil => rfl
      | cons x l => obtain ⟨_, e, _⟩ := hc (by simp); cases e
    subst hl
    rfl
  | some a =>
    show (Extern.Bytes.loadBytes a l.length .empty).run Try.prog w = _
    rw [Lib.run_loadBytesX w l a .empty (fun j x hj => ?_), e0]
    have hjl := (List.getElem?_eq_some_iff.1 hj).1
    obtain ⟨a', e, hc⟩ := hc (by omega)
    cases e
    have := hc j hjl
    rw [this]
    simp [rdOf, hj, List.getD_eq_getElem?_getD]
def compareEntry : Array Value → Sem Value := Extern.BytealgCompare.compare
theorem run_compare {w : World} {A B : Option Addr} {c d : Nat} {a b : List Int} (ha : Kd.C (Kd.int .u8) w A a.length a) (hb : Kd.C (Kd.int .u8) w B b.length b) :
    (callFunc 43 #[.slice A a.length c, .slice B b.length d]).run Try.prog w = .ok (.value (.int .i64 (cmpI a b))) w := by
  rw [run_callFunc_extern (fn := Try.f43) (by kernel_rfl) (by kernel_rfl) (by kernel_rfl) (by kernel_rfl) (e := compareEntry) (by kernel_rfl)]
  change ((Sem.run Try.prog (do pure (goInt (Extern.BytealgCompare.cmp (← Extern.Bytes.bytesOf (.slice A a.length c)) (← Extern.Bytes.bytesOf (.slice B b.length d))))) w).andThen _) = _
  simp only [Sem.run_bind, Sem.run_pure, run_bytesOf ha, run_bytesOf hb, Result.andThen]
  rw [Lib.cmp_eq]
  rfl

def bytes_Compare.f (l0 l1 : List Int) : Option Int := some (cmpI l0 l1)
theorem bytes_Compare.calls (A0 : Option Addr) (c0 : Nat) (l0 : List Int) (A1 : Option Addr) (c1 : Nat) (l1 : List Int) (r : Int) (w : World) (hr0 : Kd.C (Kd.int .u8) w A0 l0.length l0) (hc0 : l0.length ≤ c0) (hr1 : Kd.C (Kd.int .u8) w A1 l1.length l1) (hc1 : l1.length ≤ c1) (h : bytes_Compare.f l0 l1 = some r) :
    Calls Try.prog 40 #[.slice A0 l0.length c0, .slice A1 l1.length c1] w fun e w' => e = .returned (.int .i64 r) ∧ Drawn0 w w' := by
  obtain rfl := Option.some.inj h
  have hrun := run_compare (c := c0) (d := c1) hr0 hr1
  clear h hr0 hr1 hc0 hc1
  go_enter Try.func40, Try.ntmps40
  go_wp2
  go_ret
  exact ⟨rfl, Drawn0.refl _⟩

/-- The same, in a region that draws. -/
theorem cmp_quiet {A0 : Option Addr} {c0 : Nat} {l0 : List Int} {A1 : Option Addr} {c1 : Nat} {l1 : List Int} {w : World} (hr0 : Kd.C (Kd.int .u8) w A0 l0.length l0) (hc0 : l0.length ≤ c0) (hr1 : Kd.C (Kd.int .u8) w A1 l1.length l1) (hc1 : l1.length ≤ c1) (n : Nat) :
    Calls Try.prog 40 #[.slice A0 l0.length c0, .slice A1 l1.length c1] (w.drewN n) fun e w'' => e = .returned (.int .i64 (cmpI l0 l1)) ∧ ∃ m, w'' = w.drewN m := by
  refine Calls.quiet_of ?_
  refine (bytes_Compare.calls A0 c0 l0 A1 c1 l1 _ (w.drewN n) (Kd.C_below hr0 (pw_below_drewN (Below.refl _ _) n)) hc0 (Kd.C_below hr1 (pw_below_drewN (Below.refl _ _) n)) hc1 rfl).mono ?_
  rintro e w' ⟨rfl, hd⟩
  exact ⟨rfl, hd.out⟩

end Go.Proofs.Yteomanpaladdjaa.P
