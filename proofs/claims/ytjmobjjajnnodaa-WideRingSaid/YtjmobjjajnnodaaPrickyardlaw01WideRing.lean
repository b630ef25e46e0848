-- Written by a program of this session out of the translation.
import Derived.Test.YtjmobjjajnnodaaPx0
import Derived.Test.YtjmobjjajnnodaaPEq0
import Derived.Test.YtjmobjjajnnodaaPrickyardlaw01alive
import Derived.Test.YtjmobjjajnnodaaPwideOf
import Derived.Test.YtjmobjjajnnodaaEAdd
namespace Go.Proofs.Ytjmobjjajnnodaa.P
open Go.RowKit Go.Proofs.YtjmobjjajnnodaaW.PrintWords Go.Proofs.YtjmobjjajnnodaaW.PrintLast Go.Proofs.YtjmobjjajnnodaaW.PrintMore
attribute [local go_sem] max2_int min2_int max_two min_two max_three min_three max_four min_four   -- for this text's walks alone
set_option linter.unusedVariables false
set_option linter.unusedSimpArgs false

attribute [local go_sem high] eqA24
/-! ### rickyardlaw01_WideRing: function 6 -/
theorem AK_ {p : Prop} (h : p) : Aside0 p := ⟨h⟩
theorem bN_ {w : World} {g : Nat} {o : Obj} {n : Nat} (h : w.heap[g]? = some o) : (w.drewN n).heap[g]? = some o := h
theorem bD_ {w : World} {g : Nat} {o : Obj} (h : w.heap[g]? = some o) : w.drew.heap[g]? = some o := h
theorem bA_ {w : World} {g : Nat} {o o' : Obj} (h : w.heap[g]? = some o) : (w.alloc o').heap[g]? = some o := blk_alloc h o'

def rickyardlaw01_WideRing.f (k : Nat) (a0_0 : Int) (a0_1 : Int) (a1_0 : Int) (a1_1 : Int) (a2_0 : Int) (a2_1 : Int) : Option (Bool) := (wide_Add.f a0_0 a0_1 a1_0 a1_1).bind fun bt179 => ((wide_Add.f bt179.1 bt179.2 a2_0 a2_1).bind fun bt181 => ((wide_Add.f a2_0 a2_1 a1_0 a1_1).bind fun bt183 => ((wide_Add.f a0_0 a0_1 bt183.1 bt183.2).bind fun bt185 => ((rickyardlaw01_alive.f k).bind fun t189 => (if t189 = true then (if (bt181.1 == bt185.1 && (bt181.2 == bt185.2)) = true then ((wide_Add.f a0_0 a0_1 a1_0 a1_1).bind fun bt190 => ((wide_Add.f a1_0 a1_1 a0_0 a0_1).bind fun bt192 => (if (bt190.1 == bt192.1 && (bt190.2 == bt192.2)) = true then ((wide_Add.f a0_0 a0_1 a1_0 a1_1).bind fun bt194 => ((wide_Minus.f a1_0 a1_1).bind fun bt196 => ((wide_Add.f bt194.1 bt194.2 bt196.1 bt196.2).bind fun bt198 => (if (bt198.1 == a0_0 && (bt198.2 == a0_1)) = true then ((wide_Minus.f a0_0 a0_1).bind fun bt200 => ((wide_Minus.f bt200.1 bt200.2).bind fun bt202 => (if (bt202.1 == a0_0 && (bt202.2 == a0_1)) = true then ((wide_Of.f 0).bind fun bt204 => ((wide_Add.f a0_0 a0_1 bt204.1 bt204.2).bind fun bt206 => (some (bt206.1 == a0_0 && (bt206.2 == a0_1))))) else (some false)))) else (some false))))) else (some false)))) else (some false)) else (some false))))))
theorem rickyardlaw01_WideRing.mono : ∀ a0 a1 a2 a3 a4 a5 k, LeO (rickyardlaw01_WideRing.f k a0 a1 a2 a3 a4 a5) (rickyardlaw01_WideRing.f (k + 1) a0 a1 a2 a3 a4 a5) := by
 intro a0 a1 a2 a3 a4 a5 k
 unfold rickyardlaw01_WideRing.f
 repeat' first
   | (with_reducible exact rickyardlaw01_alive.mono _)
   | (with_reducible exact LeO.refl _)
   | (with_reducible exact LeO.none _)
   | (with_reducible refine LeO.ite ?_ ?_)
   | (with_reducible refine LeO.bind ?_ (fun _ => ?_))
   | exact rickyardlaw01_alive.mono _
   | exact LeO.none _
   | refine LeO.ite ?_ ?_
   | refine LeO.bind ?_ (fun _ => ?_)
def rickyardlaw01_WideRing.T1 : Bool × List (List Nat × List Nat) := (true, [([], []), ([], []), ([0, 1], [0, 1]), ([], []), ([2, 3, 2], [2, 3]), ([], []), ([], []), ([], []), ([6, 7, 4], [6, 7]), ([5, 8, 8], [5, 8]), ([], []), ([], []), ([10, 4, 9, 0, 1, 2, 3, 4, 10, 11], [4, 10]), ([11, 9, 12, 0, 1, 2, 3, 4, 5, 6, 7, 8, 9, 10, 11, 12], [9, 11])])
def rickyardlaw01_WideRing.B1 : List Nat := [0, 0, 3, 0, 15, 0, 0, 0, 223, 511, 0, 0, 4095, 8191]
theorem rickyardlaw01_WideRing.tab1 : rtab .any (opsOf Try.f6 1) = rickyardlaw01_WideRing.T1 := by kernel_rfl
theorem rickyardlaw01_WideRing.bits1 : waitsOk rickyardlaw01_WideRing.T1.2 rickyardlaw01_WideRing.B1 = true := by kernel_rfl
def rickyardlaw01_WideRing.T2 : Bool × List (List Nat × List Nat) := (true, [([], []), ([0, 0], [0]), ([1], [1]), ([1], [1]), ([2, 3, 1], [1, 2, 3]), ([1, 4], [1, 4]), ([5, 1], [5]), ([6], [6]), ([6], [6]), ([7, 8, 6, 6], [6, 7, 8]), ([6], [6]), ([6], [6]), ([10, 11, 9, 6], [6, 10, 11]), ([9, 12, 6], [6, 9, 12]), ([6, 13], [6, 13]), ([14, 12], [14]), ([15], [15]), ([15], [15]), ([16, 17, 15, 15], [15, 16, 17]), ([15], [15]), ([19, 18, 15], [15, 19]), ([18, 20, 20, 15], [15, 18, 20]), ([15], [15]), ([21, 22, 15], [15, 21, 22]), ([15, 23], [15, 23]), ([24, 21], [24]), ([25], [25]), ([26, 25, 25], [25, 26]), ([27, 27, 25], [25, 27]), ([25], [25]), ([28, 29, 25], [25, 28, 29]), ([25, 30], [25, 30]), ([31, 28], [31]), ([32], [32]), ([32, 32], [32]), ([33, 34, 34, 32], [32, 33, 34]), ([32], [32]), ([35, 36, 32], [32, 35, 36]), ([32, 37], [32, 37]), ([38, 35, 0, 1, 2, 3, 4, 5, 6, 7, 8, 9, 10, 11, 12, 13, 14, 15, 16, 17, 18, 19, 20, 21, 22, 23, 24, 25, 26, 27, 28, 29, 30, 31, 32, 33, 34, 35, 36, 37, 38], [38])])
def rickyardlaw01_WideRing.B2 : List Nat := [0, 1, 3, 3, 15, 31, 63, 127, 127, 511, 127, 127, 4095, 8191, 16383, 32767, 65535, 65535, 262143, 65535, 1048575, 2097151, 65535, 8388607, 16777215, 33554431, 67108863, 134217727, 268435455, 67108863, 1073741823, 2147483647, 4294967295, 8589934591, 8589934591, 34359738367, 8589934591, 137438953471, 274877906943, 549755813887]
theorem rickyardlaw01_WideRing.tab2 : rtab .any (opsOf Try.f6 2) = rickyardlaw01_WideRing.T2 := by kernel_rfl
theorem rickyardlaw01_WideRing.bits2 : waitsOk rickyardlaw01_WideRing.T2.2 rickyardlaw01_WideRing.B2 = true := by kernel_rfl
set_option maxHeartbeats 8000000 in
set_option maxRecDepth 100000 in
theorem rickyardlaw01_WideRing.calls (k : Nat) (a0_0 : Int) (a0_1 : Int) (a1_0 : Int) (a1_1 : Int) (a2_0 : Int) (a2_1 : Int) (r : Bool) (w : World) (h : rickyardlaw01_WideRing.f k a0_0 a0_1 a1_0 a1_1 a2_0 a2_1 = some r) (hr_ : r = true) :
  Calls Try.prog 6 #[.agg #[.int .i64 a0_0, .int .u64 a0_1], .agg #[.int .i64 a1_0, .int .u64 a1_1], .agg #[.int .i64 a2_0, .int .u64 a2_1]] w fun e w' => e = .returned (.bool r) ∧ Below w.heap.size w w' := by
 have HR_ := Aside0.mk hr_
 clear hr_
 have hu24 := Try.underlying24
 have HB := AK_ (Below.refl w.heap.size w)
 have H : ((wide_Add.f a0_0 a0_1 a1_0 a1_1).bind fun bt179 => ((wide_Add.f bt179.1 bt179.2 a2_0 a2_1).bind fun bt181 => ((wide_Add.f a2_0 a2_1 a1_0 a1_1).bind fun bt183 => ((wide_Add.f a0_0 a0_1 bt183.1 bt183.2).bind fun bt185 => ((rickyardlaw01_alive.f k).bind fun t189 => (if t189 = true then (if (bt181.1 == bt185.1 && (bt181.2 == bt185.2)) = true then ((wide_Add.f a0_0 a0_1 a1_0 a1_1).bind fun bt190 => ((wide_Add.f a1_0 a1_1 a0_0 a0_1).bind fun bt192 => (if (bt190.1 == bt192.1 && (bt190.2 == bt192.2)) = true then ((wide_Add.f a0_0 a0_1 a1_0 a1_1).bind fun bt194 => ((wide_Minus.f a1_0 a1_1).bind fun bt196 => ((wide_Add.f bt194.1 bt194.2 bt196.1 bt196.2).bind fun bt198 => (if (bt198.1 == a0_0 && (bt198.2 == a0_1)) = true then ((wide_Minus.f a0_0 a0_1).bind fun bt200 => ((wide_Minus.f bt200.1 bt200.2).bind fun bt202 => (if (bt202.1 == a0_0 && (bt202.2 == a0_1)) = true then ((wide_Of.f 0).bind fun bt204 => ((wide_Add.f a0_0 a0_1 bt204.1 bt204.2).bind fun bt206 => (some (bt206.1 == a0_0 && (bt206.2 == a0_1))))) else (some false)))) else (some false))))) else (some false)))) else (some false)) else (some false))))))) = some r := h
 clear h
 replace H := Option.bind_eq_some_iff.mp H
 obtain ⟨⟨t179, t180⟩, A40, H⟩ := H
 replace H : ((wide_Add.f t179 t180 a2_0 a2_1).bind fun bt181 => ((wide_Add.f a2_0 a2_1 a1_0 a1_1).bind fun bt183 => ((wide_Add.f a0_0 a0_1 bt183.1 bt183.2).bind fun bt185 => ((rickyardlaw01_alive.f k).bind fun t189 => (if t189 = true then (if (bt181.1 == bt185.1 && (bt181.2 == bt185.2)) = true then ((wide_Add.f a0_0 a0_1 a1_0 a1_1).bind fun bt190 => ((wide_Add.f a1_0 a1_1 a0_0 a0_1).bind fun bt192 => (if (bt190.1 == bt192.1 && (bt190.2 == bt192.2)) = true then ((wide_Add.f a0_0 a0_1 a1_0 a1_1).bind fun bt194 => ((wide_Minus.f a1_0 a1_1).bind fun bt196 => ((wide_Add.f bt194.1 bt194.2 bt196.1 bt196.2).bind fun bt198 => (if (bt198.1 == a0_0 && (bt198.2 == a0_1)) = true then ((wide_Minus.f a0_0 a0_1).bind fun bt200 => ((wide_Minus.f bt200.1 bt200.2).bind fun bt202 => (if (bt202.1 == a0_0 && (bt202.2 == a0_1)) = true then ((wide_Of.f 0).bind fun bt204 => ((wide_Add.f a0_0 a0_1 bt204.1 bt204.2).bind fun bt206 => (some (bt206.1 == a0_0 && (bt206.2 == a0_1))))) else (some false)))) else (some false))))) else (some false)))) else (some false)) else (some false)))))) = some r := H
 have A4 := Aside0.mk A40
 clear A40
 replace H := Option.bind_eq_some_iff.mp H
 obtain ⟨⟨t181, t182⟩, A50, H⟩ := H
 replace H : ((wide_Add.f a2_0 a2_1 a1_0 a1_1).bind fun bt183 => ((wide_Add.f a0_0 a0_1 bt183.1 bt183.2).bind fun bt185 => ((rickyardlaw01_alive.f k).bind fun t189 => (if t189 = true then (if (t181 == bt185.1 && (t182 == bt185.2)) = true then ((wide_Add.f a0_0 a0_1 a1_0 a1_1).bind fun bt190 => ((wide_Add.f a1_0 a1_1 a0_0 a0_1).bind fun bt192 => (if (bt190.1 == bt192.1 && (bt190.2 == bt192.2)) = true then ((wide_Add.f a0_0 a0_1 a1_0 a1_1).bind fun bt194 => ((wide_Minus.f a1_0 a1_1).bind fun bt196 => ((wide_Add.f bt194.1 bt194.2 bt196.1 bt196.2).bind fun bt198 => (if (bt198.1 == a0_0 && (bt198.2 == a0_1)) = true then ((wide_Minus.f a0_0 a0_1).bind fun bt200 => ((wide_Minus.f bt200.1 bt200.2).bind fun bt202 => (if (bt202.1 == a0_0 && (bt202.2 == a0_1)) = true then ((wide_Of.f 0).bind fun bt204 => ((wide_Add.f a0_0 a0_1 bt204.1 bt204.2).bind fun bt206 => (some (bt206.1 == a0_0 && (bt206.2 == a0_1))))) else (some false)))) else (some false))))) else (some false)))) else (some false)) else (some false))))) = some r := H
 have A5 := Aside0.mk A50
 clear A50
 replace H := Option.bind_eq_some_iff.mp H
 obtain ⟨⟨t183, t184⟩, A60, H⟩ := H
 replace H : ((wide_Add.f a0_0 a0_1 t183 t184).bind fun bt185 => ((rickyardlaw01_alive.f k).bind fun t189 => (if t189 = true then (if (t181 == bt185.1 && (t182 == bt185.2)) = true then ((wide_Add.f a0_0 a0_1 a1_0 a1_1).bind fun bt190 => ((wide_Add.f a1_0 a1_1 a0_0 a0_1).bind fun bt192 => (if (bt190.1 == bt192.1 && (bt190.2 == bt192.2)) = true then ((wide_Add.f a0_0 a0_1 a1_0 a1_1).bind fun bt194 => ((wide_Minus.f a1_0 a1_1).bind fun bt196 => ((wide_Add.f bt194.1 bt194.2 bt196.1 bt196.2).bind fun bt198 => (if (bt198.1 == a0_0 && (bt198.2 == a0_1)) = true then ((wide_Minus.f a0_0 a0_1).bind fun bt200 => ((wide_Minus.f bt200.1 bt200.2).bind fun bt202 => (if (bt202.1 == a0_0 && (bt202.2 == a0_1)) = true then ((wide_Of.f 0).bind fun bt204 => ((wide_Add.f a0_0 a0_1 bt204.1 bt204.2).bind fun bt206 => (some (bt206.1 == a0_0 && (bt206.2 == a0_1))))) else (some false)))) else (some false))))) else (some false)))) else (some false)) else (some false)))) = some r := H
 have A6 := Aside0.mk A60
 clear A60
 replace H := Option.bind_eq_some_iff.mp H
 obtain ⟨⟨t185, t186⟩, A70, H⟩ := H
 replace H : ((rickyardlaw01_alive.f k).bind fun t189 => (if t189 = true then (if (t181 == t185 && (t182 == t186)) = true then ((wide_Add.f a0_0 a0_1 a1_0 a1_1).bind fun bt190 => ((wide_Add.f a1_0 a1_1 a0_0 a0_1).bind fun bt192 => (if (bt190.1 == bt192.1 && (bt190.2 == bt192.2)) = true then ((wide_Add.f a0_0 a0_1 a1_0 a1_1).bind fun bt194 => ((wide_Minus.f a1_0 a1_1).bind fun bt196 => ((wide_Add.f bt194.1 bt194.2 bt196.1 bt196.2).bind fun bt198 => (if (bt198.1 == a0_0 && (bt198.2 == a0_1)) = true then ((wide_Minus.f a0_0 a0_1).bind fun bt200 => ((wide_Minus.f bt200.1 bt200.2).bind fun bt202 => (if (bt202.1 == a0_0 && (bt202.2 == a0_1)) = true then ((wide_Of.f 0).bind fun bt204 => ((wide_Add.f a0_0 a0_1 bt204.1 bt204.2).bind fun bt206 => (some (bt206.1 == a0_0 && (bt206.2 == a0_1))))) else (some false)))) else (some false))))) else (some false)))) else (some false)) else (some false))) = some r := H
 have A7 := Aside0.mk A70
 clear A70
 replace H := Option.bind_eq_some_iff.mp H
 obtain ⟨t189, A80, H⟩ := H
 replace H : (if t189 = true then (if (t181 == t185 && (t182 == t186)) = true then ((wide_Add.f a0_0 a0_1 a1_0 a1_1).bind fun bt190 => ((wide_Add.f a1_0 a1_1 a0_0 a0_1).bind fun bt192 => (if (bt190.1 == bt192.1 && (bt190.2 == bt192.2)) = true then ((wide_Add.f a0_0 a0_1 a1_0 a1_1).bind fun bt194 => ((wide_Minus.f a1_0 a1_1).bind fun bt196 => ((wide_Add.f bt194.1 bt194.2 bt196.1 bt196.2).bind fun bt198 => (if (bt198.1 == a0_0 && (bt198.2 == a0_1)) = true then ((wide_Minus.f a0_0 a0_1).bind fun bt200 => ((wide_Minus.f bt200.1 bt200.2).bind fun bt202 => (if (bt202.1 == a0_0 && (bt202.2 == a0_1)) = true then ((wide_Of.f 0).bind fun bt204 => ((wide_Add.f a0_0 a0_1 bt204.1 bt204.2).bind fun bt206 => (some (bt206.1 == a0_0 && (bt206.2 == a0_1))))) else (some false)))) else (some false))))) else (some false)))) else (some false)) else (some false)) = some r := H
 have A8 := Aside0.mk A80
 clear A80
 by_cases c9 : t189 = true
 rotate_left
 ·replace c9 := Bool.eq_false_iff.mpr c9
  subst c9
  have H1 : (some false) = some r := by rw [if_neg (show ¬ (false = true) by decide)] at H; exact H
  clear H
  have H := H1
  clear H1
  exact absurd ((Option.some.inj H).trans HR_.out) (by decide)
 subst c9
 have H1 : (if (t181 == t185 && (t182 == t186)) = true then ((wide_Add.f a0_0 a0_1 a1_0 a1_1).bind fun bt190 => ((wide_Add.f a1_0 a1_1 a0_0 a0_1).bind fun bt192 => (if (bt190.1 == bt192.1 && (bt190.2 == bt192.2)) = true then ((wide_Add.f a0_0 a0_1 a1_0 a1_1).bind fun bt194 => ((wide_Minus.f a1_0 a1_1).bind fun bt196 => ((wide_Add.f bt194.1 bt194.2 bt196.1 bt196.2).bind fun bt198 => (if (bt198.1 == a0_0 && (bt198.2 == a0_1)) = true then ((wide_Minus.f a0_0 a0_1).bind fun bt200 => ((wide_Minus.f bt200.1 bt200.2).bind fun bt202 => (if (bt202.1 == a0_0 && (bt202.2 == a0_1)) = true then ((wide_Of.f 0).bind fun bt204 => ((wide_Add.f a0_0 a0_1 bt204.1 bt204.2).bind fun bt206 => (some (bt206.1 == a0_0 && (bt206.2 == a0_1))))) else (some false)))) else (some false))))) else (some false)))) else (some false)) = some r := by rw [if_pos rfl] at H; exact H
 clear H
 have H := H1
 clear H1
 by_cases c10 : (t181 == t185 && (t182 == t186)) = true
 rotate_left
 ·rw [if_neg c10] at H
  have c10b0 : (t181 == t185 && (t182 == t186)) = false := by simpa using c10
  (try (have c10b1 : decide (t181 = t185 && (t182 == t186)) = false := by simpa using c10))
  (try (have c10b2 : (t181 == t185 && (t182 == t186)) = false := by simpa using c10))
  (try (have c10b3 : ¬ (t181 = t185 && (t182 == t186)) := by simpa using c10))
  clear c10
  exact absurd ((Option.some.inj H).trans HR_.out) (by decide)
 rw [if_pos c10] at H
 have c10b0 : (t181 == t185 && (t182 == t186)) = true := c10
 (try (have c10b1 : decide (t181 = t185 && (t182 == t186)) = true := by simpa using c10))
 (try (have c10b2 : (t181 == t185 && (t182 == t186)) = true := by simpa using c10))
 clear c10
 replace H := Option.bind_eq_some_iff.mp H
 obtain ⟨⟨t190, t191⟩, A110, H⟩ := H
 replace H : ((wide_Add.f a1_0 a1_1 a0_0 a0_1).bind fun bt192 => (if (t190 == bt192.1 && (t191 == bt192.2)) = true then ((wide_Add.f a0_0 a0_1 a1_0 a1_1).bind fun bt194 => ((wide_Minus.f a1_0 a1_1).bind fun bt196 => ((wide_Add.f bt194.1 bt194.2 bt196.1 bt196.2).bind fun bt198 => (if (bt198.1 == a0_0 && (bt198.2 == a0_1)) = true then ((wide_Minus.f a0_0 a0_1).bind fun bt200 => ((wide_Minus.f bt200.1 bt200.2).bind fun bt202 => (if (bt202.1 == a0_0 && (bt202.2 == a0_1)) = true then ((wide_Of.f 0).bind fun bt204 => ((wide_Add.f a0_0 a0_1 bt204.1 bt204.2).bind fun bt206 => (some (bt206.1 == a0_0 && (bt206.2 == a0_1))))) else (some false)))) else (some false))))) else (some false))) = some r := H
 have A11 := Aside0.mk A110
 clear A110
 replace H := Option.bind_eq_some_iff.mp H
 obtain ⟨⟨t192, t193⟩, A120, H⟩ := H
 replace H : (if (t190 == t192 && (t191 == t193)) = true then ((wide_Add.f a0_0 a0_1 a1_0 a1_1).bind fun bt194 => ((wide_Minus.f a1_0 a1_1).bind fun bt196 => ((wide_Add.f bt194.1 bt194.2 bt196.1 bt196.2).bind fun bt198 => (if (bt198.1 == a0_0 && (bt198.2 == a0_1)) = true then ((wide_Minus.f a0_0 a0_1).bind fun bt200 => ((wide_Minus.f bt200.1 bt200.2).bind fun bt202 => (if (bt202.1 == a0_0 && (bt202.2 == a0_1)) = true then ((wide_Of.f 0).bind fun bt204 => ((wide_Add.f a0_0 a0_1 bt204.1 bt204.2).bind fun bt206 => (some (bt206.1 == a0_0 && (bt206.2 == a0_1))))) else (some false)))) else (some false))))) else (some false)) = some r := H
 have A12 := Aside0.mk A120
 clear A120
 by_cases c13 : (t190 == t192 && (t191 == t193)) = true
 rotate_left
 ·rw [if_neg c13] at H
  have c13b0 : (t190 == t192 && (t191 == t193)) = false := by simpa using c13
  (try (have c13b1 : decide (t190 = t192 && (t191 == t193)) = false := by simpa using c13))
  (try (have c13b2 : (t190 == t192 && (t191 == t193)) = false := by simpa using c13))
  (try (have c13b3 : ¬ (t190 = t192 && (t191 == t193)) := by simpa using c13))
  clear c13
  exact absurd ((Option.some.inj H).trans HR_.out) (by decide)
 rw [if_pos c13] at H
 have c13b0 : (t190 == t192 && (t191 == t193)) = true := c13
 (try (have c13b1 : decide (t190 = t192 && (t191 == t193)) = true := by simpa using c13))
 (try (have c13b2 : (t190 == t192 && (t191 == t193)) = true := by simpa using c13))
 clear c13
 replace H := Option.bind_eq_some_iff.mp H
 obtain ⟨⟨t194, t195⟩, A140, H⟩ := H
 replace H : ((wide_Minus.f a1_0 a1_1).bind fun bt196 => ((wide_Add.f t194 t195 bt196.1 bt196.2).bind fun bt198 => (if (bt198.1 == a0_0 && (bt198.2 == a0_1)) = true then ((wide_Minus.f a0_0 a0_1).bind fun bt200 => ((wide_Minus.f bt200.1 bt200.2).bind fun bt202 => (if (bt202.1 == a0_0 && (bt202.2 == a0_1)) = true then ((wide_Of.f 0).bind fun bt204 => ((wide_Add.f a0_0 a0_1 bt204.1 bt204.2).bind fun bt206 => (some (bt206.1 == a0_0 && (bt206.2 == a0_1))))) else (some false)))) else (some false)))) = some r := H
 have A14 := Aside0.mk A140
 clear A140
 replace H := Option.bind_eq_some_iff.mp H
 obtain ⟨⟨t196, t197⟩, A150, H⟩ := H
 replace H : ((wide_Add.f t194 t195 t196 t197).bind fun bt198 => (if (bt198.1 == a0_0 && (bt198.2 == a0_1)) = true then ((wide_Minus.f a0_0 a0_1).bind fun bt200 => ((wide_Minus.f bt200.1 bt200.2).bind fun bt202 => (if (bt202.1 == a0_0 && (bt202.2 == a0_1)) = true then ((wide_Of.f 0).bind fun bt204 => ((wide_Add.f a0_0 a0_1 bt204.1 bt204.2).bind fun bt206 => (some (bt206.1 == a0_0 && (bt206.2 == a0_1))))) else (some false)))) else (some false))) = some r := H
 have A15 := Aside0.mk A150
 clear A150
 replace H := Option.bind_eq_some_iff.mp H
 obtain ⟨⟨t198, t199⟩, A160, H⟩ := H
 replace H : (if (t198 == a0_0 && (t199 == a0_1)) = true then ((wide_Minus.f a0_0 a0_1).bind fun bt200 => ((wide_Minus.f bt200.1 bt200.2).bind fun bt202 => (if (bt202.1 == a0_0 && (bt202.2 == a0_1)) = true then ((wide_Of.f 0).bind fun bt204 => ((wide_Add.f a0_0 a0_1 bt204.1 bt204.2).bind fun bt206 => (some (bt206.1 == a0_0 && (bt206.2 == a0_1))))) else (some false)))) else (some false)) = some r := H
 have A16 := Aside0.mk A160
 clear A160
 by_cases c17 : (t198 == a0_0 && (t199 == a0_1)) = true
 rotate_left
 ·rw [if_neg c17] at H
  have c17b0 : (t198 == a0_0 && (t199 == a0_1)) = false := by simpa using c17
  (try (have c17b1 : decide (t198 = a0_0 && (t199 == a0_1)) = false := by simpa using c17))
  (try (have c17b2 : (t198 == a0_0 && (t199 == a0_1)) = false := by simpa using c17))
  (try (have c17b3 : ¬ (t198 = a0_0 && (t199 == a0_1)) := by simpa using c17))
  clear c17
  exact absurd ((Option.some.inj H).trans HR_.out) (by decide)
 rw [if_pos c17] at H
 have c17b0 : (t198 == a0_0 && (t199 == a0_1)) = true := c17
 (try (have c17b1 : decide (t198 = a0_0 && (t199 == a0_1)) = true := by simpa using c17))
 (try (have c17b2 : (t198 == a0_0 && (t199 == a0_1)) = true := by simpa using c17))
 clear c17
 replace H := Option.bind_eq_some_iff.mp H
 obtain ⟨⟨t200, t201⟩, A180, H⟩ := H
 replace H : ((wide_Minus.f t200 t201).bind fun bt202 => (if (bt202.1 == a0_0 && (bt202.2 == a0_1)) = true then ((wide_Of.f 0).bind fun bt204 => ((wide_Add.f a0_0 a0_1 bt204.1 bt204.2).bind fun bt206 => (some (bt206.1 == a0_0 && (bt206.2 == a0_1))))) else (some false))) = some r := H
 have A18 := Aside0.mk A180
 clear A180
 replace H := Option.bind_eq_some_iff.mp H
 obtain ⟨⟨t202, t203⟩, A190, H⟩ := H
 replace H : (if (t202 == a0_0 && (t203 == a0_1)) = true then ((wide_Of.f 0).bind fun bt204 => ((wide_Add.f a0_0 a0_1 bt204.1 bt204.2).bind fun bt206 => (some (bt206.1 == a0_0 && (bt206.2 == a0_1))))) else (some false)) = some r := H
 have A19 := Aside0.mk A190
 clear A190
 by_cases c20 : (t202 == a0_0 && (t203 == a0_1)) = true
 rotate_left
 ·rw [if_neg c20] at H
  have c20b0 : (t202 == a0_0 && (t203 == a0_1)) = false := by simpa using c20
  (try (have c20b1 : decide (t202 = a0_0 && (t203 == a0_1)) = false := by simpa using c20))
  (try (have c20b2 : (t202 == a0_0 && (t203 == a0_1)) = false := by simpa using c20))
  (try (have c20b3 : ¬ (t202 = a0_0 && (t203 == a0_1)) := by simpa using c20))
  clear c20
  exact absurd ((Option.some.inj H).trans HR_.out) (by decide)
 rw [if_pos c20] at H
 have c20b0 : (t202 == a0_0 && (t203 == a0_1)) = true := c20
 (try (have c20b1 : decide (t202 = a0_0 && (t203 == a0_1)) = true := by simpa using c20))
 (try (have c20b2 : (t202 == a0_0 && (t203 == a0_1)) = true := by simpa using c20))
 clear c20
 replace H := Option.bind_eq_some_iff.mp H
 obtain ⟨⟨t204, t205⟩, A210, H⟩ := H
 replace H : ((wide_Add.f a0_0 a0_1 t204 t205).bind fun bt206 => (some (bt206.1 == a0_0 && (bt206.2 == a0_1)))) = some r := H
 have A21 := Aside0.mk A210
 clear A210
 replace H := Option.bind_eq_some_iff.mp H
 obtain ⟨⟨t206, t207⟩, A220, H⟩ := H
 replace H : (some (t206 == a0_0 && (t207 == a0_1))) = some r := H
 have A22 := Aside0.mk A220
 clear A220
 obtain rfl := Option.some.inj H
 go_enter Try.func6, Try.ntmps6
 try go_wp2_with (first | ((with_reducible refine gate_dst (N := 3) rfl ?_); refine box_event ?hg (N := 3) ?hd (cs := #[.int .i64 a0_0, .int .u64 a0_1]) (t := 24) ?hr ?_; (case hd => rfl); (case hg => rfl); (case hr => first | (go_simp; done) | (go_simp; rfl)); intro gb176 hg w23 hbox hb; have n0_ := AK_ (below_step (by repeat (first | exact HB.out | apply below_alloc | apply pw_below_drewN | apply below_drew1)) hb); have n1_ := AK_ (hbox); have n2_ := AK_ ((by rw [hg]; exact (below_size (by repeat (first | exact HB.out | apply below_alloc | apply pw_below_drewN | apply below_drew1))) : w.heap.size ≤ gb176)); have n3_ := AK_ ((by rw [hg]; exact (below_size (by repeat (first | exact HB.out | apply below_alloc | apply pw_below_drewN | apply below_drew1))) : w.heap.size ≤ gb176)); clear HB; have HB := n0_; have BK176 := n1_; have GW176 := n2_; have GE176 := n3_; clear n0_ n1_ n2_ n3_; clear hb hbox hg) | ((with_reducible refine gate_dst (N := 4) rfl ?_); refine box_event ?hg (N := 4) ?hd (cs := #[.int .i64 a1_0, .int .u64 a1_1]) (t := 24) ?hr ?_; (case hd => rfl); (case hg => rfl); (case hr => first | (go_simp; done) | (go_simp; rfl)); intro gb177 hg w24 hbox hb; have n0_ := AK_ (blk_below (by apply_rules [BK176.out, bN_, bD_, bA_]) hb); have n1_ := AK_ (below_step (by repeat (first | exact HB.out | apply below_alloc | apply pw_below_drewN | apply below_drew1 | refine below_set ?_ GE176.out)) hb); have n2_ := AK_ (hbox); have n3_ := AK_ ((by rw [hg]; exact (below_size (by repeat (first | exact HB.out | apply below_alloc | apply pw_below_drewN | apply below_drew1 | refine below_set ?_ GE176.out))) : w.heap.size ≤ gb177)); have n4_ := AK_ ((by rw [hg]; exact (below_size (by repeat (first | exact HB.out | apply below_alloc | apply pw_below_drewN | apply below_drew1 | refine below_set ?_ GE176.out))) : w.heap.size ≤ gb177)); have n5_ := AK_ ((by rw [hg]; exact Nat.ne_of_lt (blk_lt (g := gb176) (o := .cells #[.int .i64 a0_0, .int .u64 a0_1] 24 (0, 0)) (by apply_rules [BK176.out, bN_, bD_, bA_])) : gb176 ≠ gb177)); have n6_ := AK_ ((by rw [hg]; exact Nat.ne_of_gt (blk_lt (g := gb176) (o := .cells #[.int .i64 a0_0, .int .u64 a0_1] 24 (0, 0)) (by apply_rules [BK176.out, bN_, bD_, bA_])) : gb177 ≠ gb176)); clear BK176; clear HB; have BK176 := n0_; have HB := n1_; have BK177 := n2_; have GW177 := n3_; have GE177 := n4_; have NB176_177 := n5_; have NB177_176 := n6_; clear n0_ n1_ n2_ n3_ n4_ n5_ n6_; clear hb hbox hg) | ((with_reducible refine gate_dst (N := 5) rfl ?_); refine box_event ?hg (N := 5) ?hd (cs := #[.int .i64 a2_0, .int .u64 a2_1]) (t := 24) ?hr ?_; (case hd => rfl); (case hg => rfl); (case hr => first | (go_simp; done) | (go_simp; rfl)); intro gb178 hg w25 hbox hb; have n0_ := AK_ (blk_below (by apply_rules [BK176.out, bN_, bD_, bA_]) hb); have n1_ := AK_ (blk_below (by apply_rules [BK177.out, bN_, bD_, bA_]) hb); have n2_ := AK_ (below_step (by repeat (first | exact HB.out | apply below_alloc | apply pw_below_drewN | apply below_drew1 | refine below_set ?_ GE176.out | refine below_set ?_ GE177.out)) hb); have n3_ := AK_ (hbox); have n4_ := AK_ ((by rw [hg]; exact (below_size (by repeat (first | exact HB.out | apply below_alloc | apply pw_below_drewN | apply below_drew1 | refine below_set ?_ GE176.out | refine below_set ?_ GE177.out))) : w.heap.size ≤ gb178)); have n5_ := AK_ ((by rw [hg]; exact (below_size (by repeat (first | exact HB.out | apply below_alloc | apply pw_below_drewN | apply below_drew1 | refine below_set ?_ GE176.out | refine below_set ?_ GE177.out))) : w.heap.size ≤ gb178)); have n6_ := AK_ ((by rw [hg]; exact Nat.ne_of_lt (blk_lt (g := gb176) (o := .cells #[.int .i64 a0_0, .int .u64 a0_1] 24 (0, 0)) (by apply_rules [BK176.out, bN_, bD_, bA_])) : gb176 ≠ gb178)); have n7_ := AK_ ((by rw [hg]; exact Nat.ne_of_gt (blk_lt (g := gb176) (o := .cells #[.int .i64 a0_0, .int .u64 a0_1] 24 (0, 0)) (by apply_rules [BK176.out, bN_, bD_, bA_])) : gb178 ≠ gb176)); have n8_ := AK_ ((by rw [hg]; exact Nat.ne_of_lt (blk_lt (g := gb177) (o := .cells #[.int .i64 a1_0, .int .u64 a1_1] 24 (0, 0)) (by apply_rules [BK177.out, bN_, bD_, bA_])) : gb177 ≠ gb178)); have n9_ := AK_ ((by rw [hg]; exact Nat.ne_of_gt (blk_lt (g := gb177) (o := .cells #[.int .i64 a1_0, .int .u64 a1_1] 24 (0, 0)) (by apply_rules [BK177.out, bN_, bD_, bA_])) : gb178 ≠ gb177)); clear BK176; clear BK177; clear HB; have BK176 := n0_; have BK177 := n1_; have HB := n2_; have BK178 := n3_; have GW178 := n4_; have GE178 := n5_; have NB176_178 := n6_; have NB178_176 := n7_; have NB177_178 := n8_; have NB178_177 := n9_; clear n0_ n1_ n2_ n3_ n4_ n5_ n6_ n7_ n8_ n9_; clear hb hbox hg))
 have n0_ := AK_ (blk_drew BK176.out)
 have n1_ := AK_ (blk_drew BK177.out)
 have n2_ := AK_ (blk_drew BK178.out)
 have n3_ := AK_ (below_drew1 HB.out)
 clear BK176 BK177 BK178 HB
 have BK176 := n0_
 have BK177 := n1_
 have BK178 := n2_
 have HB := n3_
 clear n0_ n1_ n2_ n3_
 refine start_ (n := 14) (S := fun w' => w'.cell? ⟨gb176, 0, none⟩ = some (.int .i64 a0_0) ∧ w'.cell? ⟨gb176, 1, none⟩ = some (.int .u64 a0_1) ∧ w'.cell? ⟨gb177, 0, none⟩ = some (.int .i64 a1_0) ∧ w'.cell? ⟨gb177, 1, none⟩ = some (.int .u64 a1_1) ∧ w'.cell? ⟨gb178, 0, none⟩ = some (.int .i64 a2_0) ∧ w'.cell? ⟨gb178, 1, none⟩ = some (.int .u64 a2_1)) (ds := []) #[false, false, false, false, false, false, false, false, false, false, false, false, false, false] (by kernel_rfl) rfl rfl ⟨(blk_cell BK176.out 0).trans rfl, (blk_cell BK176.out 1).trans rfl, (blk_cell BK177.out 0).trans rfl, (blk_cell BK177.out 1).trans rfl, (blk_cell BK178.out 0).trans rfl, (blk_cell BK178.out 1).trans rfl⟩ (fun hHeld => ?_); refine with_tabW rickyardlaw01_WideRing.tab1 rickyardlaw01_WideRing.bits1 (fun HT_ HW_ => ?_)
 generalize w25.drew = w26 at BK176 BK177 BK178 HB hHeld ⊢
 refine take_ (i := 0) (N := some 9) (v := ?_) (a' := ?_) #[true, false, false, false, false, false, false, false, false, false, false, false, false, false] rfl rfl (take_ofW HT_.out HW_.out (by kernel_rfl)) (fun _ _ _ h => h) (Or.inl ⟨by rfl, ?_⟩) hHeld ?_ ?_
 rotate_left
 ·rintro w' ⟨s0, s1, s2, s3, s4, s5⟩
  go_simp
  with_reducible rfl
 rotate_left
 ·simp only [Act.put, List.setIfInBounds_toArray, List.set_cons_zero, List.set_cons_succ, i64_w, i32_w]
  rfl
 refine take_ (i := 1) (N := some 10) (v := ?_) (a' := ?_) #[true, true, false, false, false, false, false, false, false, false, false, false, false, false] rfl rfl (take_ofW HT_.out HW_.out (by kernel_rfl)) (fun _ _ _ h => h) (Or.inl ⟨by rfl, ?_⟩) hHeld ?_ ?_
 rotate_left
 ·rintro w' ⟨s0, s1, s2, s3, s4, s5⟩
  go_simp
  with_reducible rfl
 rotate_left
 ·simp only [Act.put, List.setIfInBounds_toArray, List.set_cons_zero, List.set_cons_succ, i64_w, i32_w]
  rfl
 refine take_ (i := 3) (N := some 12) (v := ?_) (a' := ?_) #[true, true, false, true, false, false, false, false, false, false, false, false, false, false] rfl rfl (take_ofW HT_.out HW_.out (by kernel_rfl)) (fun _ _ _ h => h) (Or.inl ⟨by rfl, ?_⟩) hHeld ?_ ?_
 rotate_left
 ·rintro w' ⟨s0, s1, s2, s3, s4, s5⟩
  go_simp
  with_reducible rfl
 rotate_left
 ·simp only [Act.put, List.setIfInBounds_toArray, List.set_cons_zero, List.set_cons_succ, i64_w, i32_w]
  rfl
 refine take_ (i := 5) (N := some 14) (v := ?_) (a' := ?_) #[true, true, false, true, false, true, false, false, false, false, false, false, false, false] rfl rfl (take_ofW HT_.out HW_.out (by kernel_rfl)) (fun _ _ _ h => h) (Or.inl ⟨by rfl, ?_⟩) hHeld ?_ ?_
 rotate_left
 ·rintro w' ⟨s0, s1, s2, s3, s4, s5⟩
  go_simp
  with_reducible rfl
 rotate_left
 ·simp only [Act.put, List.setIfInBounds_toArray, List.set_cons_zero, List.set_cons_succ, i64_w, i32_w]
  rfl
 refine take_ (i := 6) (N := some 15) (v := ?_) (a' := ?_) #[true, true, false, true, false, true, true, false, false, false, false, false, false, false] rfl rfl (take_ofW HT_.out HW_.out (by kernel_rfl)) (fun _ _ _ h => h) (Or.inl ⟨by rfl, ?_⟩) hHeld ?_ ?_
 rotate_left
 ·rintro w' ⟨s0, s1, s2, s3, s4, s5⟩
  go_simp
  with_reducible rfl
 rotate_left
 ·simp only [Act.put, List.setIfInBounds_toArray, List.set_cons_zero, List.set_cons_succ, i64_w, i32_w]
  rfl
 refine take_ (i := 7) (N := some 16) (v := ?_) (a' := ?_) #[true, true, false, true, false, true, true, true, false, false, false, false, false, false] rfl rfl (take_ofW HT_.out HW_.out (by kernel_rfl)) (fun _ _ _ h => h) (Or.inl ⟨by rfl, ?_⟩) hHeld ?_ ?_
 rotate_left
 ·rintro w' ⟨s0, s1, s2, s3, s4, s5⟩
  go_simp
  with_reducible rfl
 rotate_left
 ·simp only [Act.put, List.setIfInBounds_toArray, List.set_cons_zero, List.set_cons_succ, i64_w, i32_w]
  rfl
 refine join_ (σ := Nat × Nat) 2 #[true, true, true, true, true, true, true, true, true, true, true, true, false, false] (fun s_ => [(11, .agg #[.int .i64 t179, .int .u64 t180]), (13, .agg #[.int .i64 t181, .int .u64 t182]), (17, .agg #[.int .i64 t183, .int .u64 t184]), (18, .agg #[.int .i64 t185, .int .u64 t186]), (7, .pointer (some ⟨s_.1, 0, none⟩)), (8, .pointer (some ⟨s_.2, 0, none⟩))]) (fun s_ w' => (w'.cell? ⟨gb176, 0, none⟩ = some (.int .i64 a0_0) ∧ w'.cell? ⟨gb176, 1, none⟩ = some (.int .u64 a0_1) ∧ w'.cell? ⟨gb177, 0, none⟩ = some (.int .i64 a1_0) ∧ w'.cell? ⟨gb177, 1, none⟩ = some (.int .u64 a1_1) ∧ w'.cell? ⟨gb178, 0, none⟩ = some (.int .i64 a2_0) ∧ w'.cell? ⟨gb178, 1, none⟩ = some (.int .u64 a2_1)) ∧ (w'.heap[gb176]? = some (.cells #[.int .i64 a0_0, .int .u64 a0_1] 24 (0, 0))) ∧ (w'.heap[gb177]? = some (.cells #[.int .i64 a1_0, .int .u64 a1_1] 24 (0, 0))) ∧ (w'.heap[gb178]? = some (.cells #[.int .i64 a2_0, .int .u64 a2_1] 24 (0, 0))) ∧ (w'.heap[s_.1]? = some (.cells #[.int .i64 0, .int .u64 0] 24 (0, 0))) ∧ (w'.heap[s_.2]? = some (.cells #[.int .i64 0, .int .u64 0] 24 (0, 0))) ∧ (w.heap.size ≤ s_.1) ∧ (w.heap.size ≤ s_.1) ∧ (gb176 ≠ s_.1) ∧ (s_.1 ≠ gb176) ∧ (gb177 ≠ s_.1) ∧ (s_.1 ≠ gb177) ∧ (gb178 ≠ s_.1) ∧ (s_.1 ≠ gb178) ∧ (s_.2 ≠ s_.1) ∧ (s_.1 ≠ s_.2) ∧ (w.heap.size ≤ s_.2) ∧ (w.heap.size ≤ s_.2) ∧ (gb176 ≠ s_.2) ∧ (s_.2 ≠ gb176) ∧ (gb177 ≠ s_.2) ∧ (s_.2 ≠ gb177) ∧ (gb178 ≠ s_.2) ∧ (s_.2 ≠ gb178) ∧ (Below w.heap.size w w')) ?_ ?_
 rotate_left
 ·intro hJ2_4_8_9_10_11
  refine join_ (σ := Nat) 3 #[true, true, true, true, true, true, true, true, true, true, true, false, false, false] (fun s_ => [(11, .agg #[.int .i64 t179, .int .u64 t180]), (13, .agg #[.int .i64 t181, .int .u64 t182]), (17, .agg #[.int .i64 t183, .int .u64 t184]), (18, .agg #[.int .i64 t185, .int .u64 t186]), (7, .pointer (some ⟨s_, 0, none⟩))]) (fun s_ w' => (w'.cell? ⟨gb176, 0, none⟩ = some (.int .i64 a0_0) ∧ w'.cell? ⟨gb176, 1, none⟩ = some (.int .u64 a0_1) ∧ w'.cell? ⟨gb177, 0, none⟩ = some (.int .i64 a1_0) ∧ w'.cell? ⟨gb177, 1, none⟩ = some (.int .u64 a1_1) ∧ w'.cell? ⟨gb178, 0, none⟩ = some (.int .i64 a2_0) ∧ w'.cell? ⟨gb178, 1, none⟩ = some (.int .u64 a2_1)) ∧ (w'.heap[gb176]? = some (.cells #[.int .i64 a0_0, .int .u64 a0_1] 24 (0, 0))) ∧ (w'.heap[gb177]? = some (.cells #[.int .i64 a1_0, .int .u64 a1_1] 24 (0, 0))) ∧ (w'.heap[gb178]? = some (.cells #[.int .i64 a2_0, .int .u64 a2_1] 24 (0, 0))) ∧ (w'.heap[s_]? = some (.cells #[.int .i64 0, .int .u64 0] 24 (0, 0))) ∧ (w.heap.size ≤ s_) ∧ (w.heap.size ≤ s_) ∧ (gb176 ≠ s_) ∧ (s_ ≠ gb176) ∧ (gb177 ≠ s_) ∧ (s_ ≠ gb177) ∧ (gb178 ≠ s_) ∧ (s_ ≠ gb178) ∧ (Below w.heap.size w w')) ?_ ?_
  rotate_left
  ·intro hJ2_4_8_9_10
   refine join_ (σ := Nat) 3 #[true, true, true, true, true, true, true, true, true, true, false, true, false, false] (fun s_ => [(11, .agg #[.int .i64 t179, .int .u64 t180]), (13, .agg #[.int .i64 t181, .int .u64 t182]), (17, .agg #[.int .i64 t183, .int .u64 t184]), (18, .agg #[.int .i64 t185, .int .u64 t186]), (8, .pointer (some ⟨s_, 0, none⟩))]) (fun s_ w' => (w'.cell? ⟨gb176, 0, none⟩ = some (.int .i64 a0_0) ∧ w'.cell? ⟨gb176, 1, none⟩ = some (.int .u64 a0_1) ∧ w'.cell? ⟨gb177, 0, none⟩ = some (.int .i64 a1_0) ∧ w'.cell? ⟨gb177, 1, none⟩ = some (.int .u64 a1_1) ∧ w'.cell? ⟨gb178, 0, none⟩ = some (.int .i64 a2_0) ∧ w'.cell? ⟨gb178, 1, none⟩ = some (.int .u64 a2_1)) ∧ (w'.heap[gb176]? = some (.cells #[.int .i64 a0_0, .int .u64 a0_1] 24 (0, 0))) ∧ (w'.heap[gb177]? = some (.cells #[.int .i64 a1_0, .int .u64 a1_1] 24 (0, 0))) ∧ (w'.heap[gb178]? = some (.cells #[.int .i64 a2_0, .int .u64 a2_1] 24 (0, 0))) ∧ (w'.heap[s_]? = some (.cells #[.int .i64 0, .int .u64 0] 24 (0, 0))) ∧ (w.heap.size ≤ s_) ∧ (w.heap.size ≤ s_) ∧ (gb176 ≠ s_) ∧ (s_ ≠ gb176) ∧ (gb177 ≠ s_) ∧ (s_ ≠ gb177) ∧ (gb178 ≠ s_) ∧ (s_ ≠ gb178) ∧ (Below w.heap.size w w')) ?_ ?_
   rotate_left
   ·intro hJ2_4_8_9_11
    refine join_ (σ := Nat × Nat) 3 #[true, true, true, true, true, true, true, true, true, false, true, true, false, false] (fun s_ => [(11, .agg #[.int .i64 t179, .int .u64 t180]), (13, .agg #[.int .i64 t181, .int .u64 t182]), (17, .agg #[.int .i64 t183, .int .u64 t184]), (7, .pointer (some ⟨s_.1, 0, none⟩)), (8, .pointer (some ⟨s_.2, 0, none⟩))]) (fun s_ w' => (w'.cell? ⟨gb176, 0, none⟩ = some (.int .i64 a0_0) ∧ w'.cell? ⟨gb176, 1, none⟩ = some (.int .u64 a0_1) ∧ w'.cell? ⟨gb177, 0, none⟩ = some (.int .i64 a1_0) ∧ w'.cell? ⟨gb177, 1, none⟩ = some (.int .u64 a1_1) ∧ w'.cell? ⟨gb178, 0, none⟩ = some (.int .i64 a2_0) ∧ w'.cell? ⟨gb178, 1, none⟩ = some (.int .u64 a2_1)) ∧ (w'.heap[gb176]? = some (.cells #[.int .i64 a0_0, .int .u64 a0_1] 24 (0, 0))) ∧ (w'.heap[gb177]? = some (.cells #[.int .i64 a1_0, .int .u64 a1_1] 24 (0, 0))) ∧ (w'.heap[gb178]? = some (.cells #[.int .i64 a2_0, .int .u64 a2_1] 24 (0, 0))) ∧ (w'.heap[s_.1]? = some (.cells #[.int .i64 0, .int .u64 0] 24 (0, 0))) ∧ (w'.heap[s_.2]? = some (.cells #[.int .i64 0, .int .u64 0] 24 (0, 0))) ∧ (w.heap.size ≤ s_.1) ∧ (w.heap.size ≤ s_.1) ∧ (gb176 ≠ s_.1) ∧ (s_.1 ≠ gb176) ∧ (gb177 ≠ s_.1) ∧ (s_.1 ≠ gb177) ∧ (gb178 ≠ s_.1) ∧ (s_.1 ≠ gb178) ∧ (s_.2 ≠ s_.1) ∧ (s_.1 ≠ s_.2) ∧ (w.heap.size ≤ s_.2) ∧ (w.heap.size ≤ s_.2) ∧ (gb176 ≠ s_.2) ∧ (s_.2 ≠ gb176) ∧ (gb177 ≠ s_.2) ∧ (s_.2 ≠ gb177) ∧ (gb178 ≠ s_.2) ∧ (s_.2 ≠ gb178) ∧ (Below w.heap.size w w')) ?_ ?_
    rotate_left
    ·intro hJ2_4_8_10_11
     refine join_ (σ := Unit) 4 #[true, true, true, true, true, true, true, true, true, true, false, false, false, false] (fun s_ => [(11, .agg #[.int .i64 t179, .int .u64 t180]), (13, .agg #[.int .i64 t181, .int .u64 t182]), (17, .agg #[.int .i64 t183, .int .u64 t184]), (18, .agg #[.int .i64 t185, .int .u64 t186])]) (fun s_ w' => (w'.cell? ⟨gb176, 0, none⟩ = some (.int .i64 a0_0) ∧ w'.cell? ⟨gb176, 1, none⟩ = some (.int .u64 a0_1) ∧ w'.cell? ⟨gb177, 0, none⟩ = some (.int .i64 a1_0) ∧ w'.cell? ⟨gb177, 1, none⟩ = some (.int .u64 a1_1) ∧ w'.cell? ⟨gb178, 0, none⟩ = some (.int .i64 a2_0) ∧ w'.cell? ⟨gb178, 1, none⟩ = some (.int .u64 a2_1)) ∧ (w'.heap[gb176]? = some (.cells #[.int .i64 a0_0, .int .u64 a0_1] 24 (0, 0))) ∧ (w'.heap[gb177]? = some (.cells #[.int .i64 a1_0, .int .u64 a1_1] 24 (0, 0))) ∧ (w'.heap[gb178]? = some (.cells #[.int .i64 a2_0, .int .u64 a2_1] 24 (0, 0))) ∧ (Below w.heap.size w w')) ?_ ?_
     rotate_left
     ·intro hJ2_4_8_9
      refine join_ (σ := Nat) 4 #[true, true, true, true, true, true, true, true, true, false, true, false, false, false] (fun s_ => [(11, .agg #[.int .i64 t179, .int .u64 t180]), (13, .agg #[.int .i64 t181, .int .u64 t182]), (17, .agg #[.int .i64 t183, .int .u64 t184]), (7, .pointer (some ⟨s_, 0, none⟩))]) (fun s_ w' => (w'.cell? ⟨gb176, 0, none⟩ = some (.int .i64 a0_0) ∧ w'.cell? ⟨gb176, 1, none⟩ = some (.int .u64 a0_1) ∧ w'.cell? ⟨gb177, 0, none⟩ = some (.int .i64 a1_0) ∧ w'.cell? ⟨gb177, 1, none⟩ = some (.int .u64 a1_1) ∧ w'.cell? ⟨gb178, 0, none⟩ = some (.int .i64 a2_0) ∧ w'.cell? ⟨gb178, 1, none⟩ = some (.int .u64 a2_1)) ∧ (w'.heap[gb176]? = some (.cells #[.int .i64 a0_0, .int .u64 a0_1] 24 (0, 0))) ∧ (w'.heap[gb177]? = some (.cells #[.int .i64 a1_0, .int .u64 a1_1] 24 (0, 0))) ∧ (w'.heap[gb178]? = some (.cells #[.int .i64 a2_0, .int .u64 a2_1] 24 (0, 0))) ∧ (w'.heap[s_]? = some (.cells #[.int .i64 0, .int .u64 0] 24 (0, 0))) ∧ (w.heap.size ≤ s_) ∧ (w.heap.size ≤ s_) ∧ (gb176 ≠ s_) ∧ (s_ ≠ gb176) ∧ (gb177 ≠ s_) ∧ (s_ ≠ gb177) ∧ (gb178 ≠ s_) ∧ (s_ ≠ gb178) ∧ (Below w.heap.size w w')) ?_ ?_
      rotate_left
      ·intro hJ2_4_8_10
       refine join_ (σ := Nat) 4 #[true, true, true, true, true, true, true, true, true, false, false, true, false, false] (fun s_ => [(11, .agg #[.int .i64 t179, .int .u64 t180]), (13, .agg #[.int .i64 t181, .int .u64 t182]), (17, .agg #[.int .i64 t183, .int .u64 t184]), (8, .pointer (some ⟨s_, 0, none⟩))]) (fun s_ w' => (w'.cell? ⟨gb176, 0, none⟩ = some (.int .i64 a0_0) ∧ w'.cell? ⟨gb176, 1, none⟩ = some (.int .u64 a0_1) ∧ w'.cell? ⟨gb177, 0, none⟩ = some (.int .i64 a1_0) ∧ w'.cell? ⟨gb177, 1, none⟩ = some (.int .u64 a1_1) ∧ w'.cell? ⟨gb178, 0, none⟩ = some (.int .i64 a2_0) ∧ w'.cell? ⟨gb178, 1, none⟩ = some (.int .u64 a2_1)) ∧ (w'.heap[gb176]? = some (.cells #[.int .i64 a0_0, .int .u64 a0_1] 24 (0, 0))) ∧ (w'.heap[gb177]? = some (.cells #[.int .i64 a1_0, .int .u64 a1_1] 24 (0, 0))) ∧ (w'.heap[gb178]? = some (.cells #[.int .i64 a2_0, .int .u64 a2_1] 24 (0, 0))) ∧ (w'.heap[s_]? = some (.cells #[.int .i64 0, .int .u64 0] 24 (0, 0))) ∧ (w.heap.size ≤ s_) ∧ (w.heap.size ≤ s_) ∧ (gb176 ≠ s_) ∧ (s_ ≠ gb176) ∧ (gb177 ≠ s_) ∧ (s_ ≠ gb177) ∧ (gb178 ≠ s_) ∧ (s_ ≠ gb178) ∧ (Below w.heap.size w w')) ?_ ?_
       rotate_left
       ·intro hJ2_4_8_11
        refine join_ (σ := Nat × Nat) 4 #[true, true, true, true, true, true, true, true, false, false, true, true, false, false] (fun s_ => [(11, .agg #[.int .i64 t179, .int .u64 t180]), (13, .agg #[.int .i64 t181, .int .u64 t182]), (7, .pointer (some ⟨s_.1, 0, none⟩)), (8, .pointer (some ⟨s_.2, 0, none⟩))]) (fun s_ w' => (w'.cell? ⟨gb176, 0, none⟩ = some (.int .i64 a0_0) ∧ w'.cell? ⟨gb176, 1, none⟩ = some (.int .u64 a0_1) ∧ w'.cell? ⟨gb177, 0, none⟩ = some (.int .i64 a1_0) ∧ w'.cell? ⟨gb177, 1, none⟩ = some (.int .u64 a1_1) ∧ w'.cell? ⟨gb178, 0, none⟩ = some (.int .i64 a2_0) ∧ w'.cell? ⟨gb178, 1, none⟩ = some (.int .u64 a2_1)) ∧ (w'.heap[gb176]? = some (.cells #[.int .i64 a0_0, .int .u64 a0_1] 24 (0, 0))) ∧ (w'.heap[gb177]? = some (.cells #[.int .i64 a1_0, .int .u64 a1_1] 24 (0, 0))) ∧ (w'.heap[gb178]? = some (.cells #[.int .i64 a2_0, .int .u64 a2_1] 24 (0, 0))) ∧ (w'.heap[s_.1]? = some (.cells #[.int .i64 0, .int .u64 0] 24 (0, 0))) ∧ (w'.heap[s_.2]? = some (.cells #[.int .i64 0, .int .u64 0] 24 (0, 0))) ∧ (w.heap.size ≤ s_.1) ∧ (w.heap.size ≤ s_.1) ∧ (gb176 ≠ s_.1) ∧ (s_.1 ≠ gb176) ∧ (gb177 ≠ s_.1) ∧ (s_.1 ≠ gb177) ∧ (gb178 ≠ s_.1) ∧ (s_.1 ≠ gb178) ∧ (s_.2 ≠ s_.1) ∧ (s_.1 ≠ s_.2) ∧ (w.heap.size ≤ s_.2) ∧ (w.heap.size ≤ s_.2) ∧ (gb176 ≠ s_.2) ∧ (s_.2 ≠ gb176) ∧ (gb177 ≠ s_.2) ∧ (s_.2 ≠ gb177) ∧ (gb178 ≠ s_.2) ∧ (s_.2 ≠ gb178) ∧ (Below w.heap.size w w')) ?_ ?_
        rotate_left
        ·intro hJ2_4_10_11
         refine join_ (σ := Unit) 5 #[true, true, true, true, true, true, true, true, true, false, false, false, false, false] (fun s_ => [(11, .agg #[.int .i64 t179, .int .u64 t180]), (13, .agg #[.int .i64 t181, .int .u64 t182]), (17, .agg #[.int .i64 t183, .int .u64 t184])]) (fun s_ w' => (w'.cell? ⟨gb176, 0, none⟩ = some (.int .i64 a0_0) ∧ w'.cell? ⟨gb176, 1, none⟩ = some (.int .u64 a0_1) ∧ w'.cell? ⟨gb177, 0, none⟩ = some (.int .i64 a1_0) ∧ w'.cell? ⟨gb177, 1, none⟩ = some (.int .u64 a1_1) ∧ w'.cell? ⟨gb178, 0, none⟩ = some (.int .i64 a2_0) ∧ w'.cell? ⟨gb178, 1, none⟩ = some (.int .u64 a2_1)) ∧ (w'.heap[gb176]? = some (.cells #[.int .i64 a0_0, .int .u64 a0_1] 24 (0, 0))) ∧ (w'.heap[gb177]? = some (.cells #[.int .i64 a1_0, .int .u64 a1_1] 24 (0, 0))) ∧ (w'.heap[gb178]? = some (.cells #[.int .i64 a2_0, .int .u64 a2_1] 24 (0, 0))) ∧ (Below w.heap.size w w')) ?_ ?_
         rotate_left
         ·intro hJ2_4_8
          refine join_ (σ := Nat) 5 #[true, true, true, true, true, true, true, true, false, false, true, false, false, false] (fun s_ => [(11, .agg #[.int .i64 t179, .int .u64 t180]), (13, .agg #[.int .i64 t181, .int .u64 t182]), (7, .pointer (some ⟨s_, 0, none⟩))]) (fun s_ w' => (w'.cell? ⟨gb176, 0, none⟩ = some (.int .i64 a0_0) ∧ w'.cell? ⟨gb176, 1, none⟩ = some (.int .u64 a0_1) ∧ w'.cell? ⟨gb177, 0, none⟩ = some (.int .i64 a1_0) ∧ w'.cell? ⟨gb177, 1, none⟩ = some (.int .u64 a1_1) ∧ w'.cell? ⟨gb178, 0, none⟩ = some (.int .i64 a2_0) ∧ w'.cell? ⟨gb178, 1, none⟩ = some (.int .u64 a2_1)) ∧ (w'.heap[gb176]? = some (.cells #[.int .i64 a0_0, .int .u64 a0_1] 24 (0, 0))) ∧ (w'.heap[gb177]? = some (.cells #[.int .i64 a1_0, .int .u64 a1_1] 24 (0, 0))) ∧ (w'.heap[gb178]? = some (.cells #[.int .i64 a2_0, .int .u64 a2_1] 24 (0, 0))) ∧ (w'.heap[s_]? = some (.cells #[.int .i64 0, .int .u64 0] 24 (0, 0))) ∧ (w.heap.size ≤ s_) ∧ (w.heap.size ≤ s_) ∧ (gb176 ≠ s_) ∧ (s_ ≠ gb176) ∧ (gb177 ≠ s_) ∧ (s_ ≠ gb177) ∧ (gb178 ≠ s_) ∧ (s_ ≠ gb178) ∧ (Below w.heap.size w w')) ?_ ?_
          rotate_left
          ·intro hJ2_4_10
           refine join_ (σ := Nat) 5 #[true, true, true, true, true, true, true, true, false, false, false, true, false, false] (fun s_ => [(11, .agg #[.int .i64 t179, .int .u64 t180]), (13, .agg #[.int .i64 t181, .int .u64 t182]), (8, .pointer (some ⟨s_, 0, none⟩))]) (fun s_ w' => (w'.cell? ⟨gb176, 0, none⟩ = some (.int .i64 a0_0) ∧ w'.cell? ⟨gb176, 1, none⟩ = some (.int .u64 a0_1) ∧ w'.cell? ⟨gb177, 0, none⟩ = some (.int .i64 a1_0) ∧ w'.cell? ⟨gb177, 1, none⟩ = some (.int .u64 a1_1) ∧ w'.cell? ⟨gb178, 0, none⟩ = some (.int .i64 a2_0) ∧ w'.cell? ⟨gb178, 1, none⟩ = some (.int .u64 a2_1)) ∧ (w'.heap[gb176]? = some (.cells #[.int .i64 a0_0, .int .u64 a0_1] 24 (0, 0))) ∧ (w'.heap[gb177]? = some (.cells #[.int .i64 a1_0, .int .u64 a1_1] 24 (0, 0))) ∧ (w'.heap[gb178]? = some (.cells #[.int .i64 a2_0, .int .u64 a2_1] 24 (0, 0))) ∧ (w'.heap[s_]? = some (.cells #[.int .i64 0, .int .u64 0] 24 (0, 0))) ∧ (w.heap.size ≤ s_) ∧ (w.heap.size ≤ s_) ∧ (gb176 ≠ s_) ∧ (s_ ≠ gb176) ∧ (gb177 ≠ s_) ∧ (s_ ≠ gb177) ∧ (gb178 ≠ s_) ∧ (s_ ≠ gb178) ∧ (Below w.heap.size w w')) ?_ ?_
           rotate_left
           ·intro hJ2_4_11
            refine join_ (σ := Nat × Nat) 5 #[true, true, true, true, false, true, true, true, false, false, true, true, false, false] (fun s_ => [(11, .agg #[.int .i64 t179, .int .u64 t180]), (7, .pointer (some ⟨s_.1, 0, none⟩)), (8, .pointer (some ⟨s_.2, 0, none⟩))]) (fun s_ w' => (w'.cell? ⟨gb176, 0, none⟩ = some (.int .i64 a0_0) ∧ w'.cell? ⟨gb176, 1, none⟩ = some (.int .u64 a0_1) ∧ w'.cell? ⟨gb177, 0, none⟩ = some (.int .i64 a1_0) ∧ w'.cell? ⟨gb177, 1, none⟩ = some (.int .u64 a1_1) ∧ w'.cell? ⟨gb178, 0, none⟩ = some (.int .i64 a2_0) ∧ w'.cell? ⟨gb178, 1, none⟩ = some (.int .u64 a2_1)) ∧ (w'.heap[gb176]? = some (.cells #[.int .i64 a0_0, .int .u64 a0_1] 24 (0, 0))) ∧ (w'.heap[gb177]? = some (.cells #[.int .i64 a1_0, .int .u64 a1_1] 24 (0, 0))) ∧ (w'.heap[gb178]? = some (.cells #[.int .i64 a2_0, .int .u64 a2_1] 24 (0, 0))) ∧ (w'.heap[s_.1]? = some (.cells #[.int .i64 0, .int .u64 0] 24 (0, 0))) ∧ (w'.heap[s_.2]? = some (.cells #[.int .i64 0, .int .u64 0] 24 (0, 0))) ∧ (w.heap.size ≤ s_.1) ∧ (w.heap.size ≤ s_.1) ∧ (gb176 ≠ s_.1) ∧ (s_.1 ≠ gb176) ∧ (gb177 ≠ s_.1) ∧ (s_.1 ≠ gb177) ∧ (gb178 ≠ s_.1) ∧ (s_.1 ≠ gb178) ∧ (s_.2 ≠ s_.1) ∧ (s_.1 ≠ s_.2) ∧ (w.heap.size ≤ s_.2) ∧ (w.heap.size ≤ s_.2) ∧ (gb176 ≠ s_.2) ∧ (s_.2 ≠ gb176) ∧ (gb177 ≠ s_.2) ∧ (s_.2 ≠ gb177) ∧ (gb178 ≠ s_.2) ∧ (s_.2 ≠ gb178) ∧ (Below w.heap.size w w')) ?_ ?_
            rotate_left
            ·intro hJ2_10_11
             refine join_ (σ := Unit) 6 #[true, true, true, true, true, true, true, true, false, false, false, false, false, false] (fun s_ => [(11, .agg #[.int .i64 t179, .int .u64 t180]), (13, .agg #[.int .i64 t181, .int .u64 t182])]) (fun s_ w' => (w'.cell? ⟨gb176, 0, none⟩ = some (.int .i64 a0_0) ∧ w'.cell? ⟨gb176, 1, none⟩ = some (.int .u64 a0_1) ∧ w'.cell? ⟨gb177, 0, none⟩ = some (.int .i64 a1_0) ∧ w'.cell? ⟨gb177, 1, none⟩ = some (.int .u64 a1_1) ∧ w'.cell? ⟨gb178, 0, none⟩ = some (.int .i64 a2_0) ∧ w'.cell? ⟨gb178, 1, none⟩ = some (.int .u64 a2_1)) ∧ (w'.heap[gb176]? = some (.cells #[.int .i64 a0_0, .int .u64 a0_1] 24 (0, 0))) ∧ (w'.heap[gb177]? = some (.cells #[.int .i64 a1_0, .int .u64 a1_1] 24 (0, 0))) ∧ (w'.heap[gb178]? = some (.cells #[.int .i64 a2_0, .int .u64 a2_1] 24 (0, 0))) ∧ (Below w.heap.size w w')) ?_ ?_
             rotate_left
             ·intro hJ2_4
              refine join_ (σ := Nat) 6 #[true, true, true, true, false, true, true, true, false, false, true, false, false, false] (fun s_ => [(11, .agg #[.int .i64 t179, .int .u64 t180]), (7, .pointer (some ⟨s_, 0, none⟩))]) (fun s_ w' => (w'.cell? ⟨gb176, 0, none⟩ = some (.int .i64 a0_0) ∧ w'.cell? ⟨gb176, 1, none⟩ = some (.int .u64 a0_1) ∧ w'.cell? ⟨gb177, 0, none⟩ = some (.int .i64 a1_0) ∧ w'.cell? ⟨gb177, 1, none⟩ = some (.int .u64 a1_1) ∧ w'.cell? ⟨gb178, 0, none⟩ = some (.int .i64 a2_0) ∧ w'.cell? ⟨gb178, 1, none⟩ = some (.int .u64 a2_1)) ∧ (w'.heap[gb176]? = some (.cells #[.int .i64 a0_0, .int .u64 a0_1] 24 (0, 0))) ∧ (w'.heap[gb177]? = some (.cells #[.int .i64 a1_0, .int .u64 a1_1] 24 (0, 0))) ∧ (w'.heap[gb178]? = some (.cells #[.int .i64 a2_0, .int .u64 a2_1] 24 (0, 0))) ∧ (w'.heap[s_]? = some (.cells #[.int .i64 0, .int .u64 0] 24 (0, 0))) ∧ (w.heap.size ≤ s_) ∧ (w.heap.size ≤ s_) ∧ (gb176 ≠ s_) ∧ (s_ ≠ gb176) ∧ (gb177 ≠ s_) ∧ (s_ ≠ gb177) ∧ (gb178 ≠ s_) ∧ (s_ ≠ gb178) ∧ (Below w.heap.size w w')) ?_ ?_
              rotate_left
              ·intro hJ2_10
               refine join_ (σ := Nat) 6 #[true, true, true, true, false, true, true, true, false, false, false, true, false, false] (fun s_ => [(11, .agg #[.int .i64 t179, .int .u64 t180]), (8, .pointer (some ⟨s_, 0, none⟩))]) (fun s_ w' => (w'.cell? ⟨gb176, 0, none⟩ = some (.int .i64 a0_0) ∧ w'.cell? ⟨gb176, 1, none⟩ = some (.int .u64 a0_1) ∧ w'.cell? ⟨gb177, 0, none⟩ = some (.int .i64 a1_0) ∧ w'.cell? ⟨gb177, 1, none⟩ = some (.int .u64 a1_1) ∧ w'.cell? ⟨gb178, 0, none⟩ = some (.int .i64 a2_0) ∧ w'.cell? ⟨gb178, 1, none⟩ = some (.int .u64 a2_1)) ∧ (w'.heap[gb176]? = some (.cells #[.int .i64 a0_0, .int .u64 a0_1] 24 (0, 0))) ∧ (w'.heap[gb177]? = some (.cells #[.int .i64 a1_0, .int .u64 a1_1] 24 (0, 0))) ∧ (w'.heap[gb178]? = some (.cells #[.int .i64 a2_0, .int .u64 a2_1] 24 (0, 0))) ∧ (w'.heap[s_]? = some (.cells #[.int .i64 0, .int .u64 0] 24 (0, 0))) ∧ (w.heap.size ≤ s_) ∧ (w.heap.size ≤ s_) ∧ (gb176 ≠ s_) ∧ (s_ ≠ gb176) ∧ (gb177 ≠ s_) ∧ (s_ ≠ gb177) ∧ (gb178 ≠ s_) ∧ (s_ ≠ gb178) ∧ (Below w.heap.size w w')) ?_ ?_
               rotate_left
               ·intro hJ2_11
                refine join_ (σ := Nat × Nat) 6 #[true, true, false, true, false, true, true, true, false, false, true, true, false, false] (fun s_ => [(7, .pointer (some ⟨s_.1, 0, none⟩)), (8, .pointer (some ⟨s_.2, 0, none⟩))]) (fun s_ w' => (w'.cell? ⟨gb176, 0, none⟩ = some (.int .i64 a0_0) ∧ w'.cell? ⟨gb176, 1, none⟩ = some (.int .u64 a0_1) ∧ w'.cell? ⟨gb177, 0, none⟩ = some (.int .i64 a1_0) ∧ w'.cell? ⟨gb177, 1, none⟩ = some (.int .u64 a1_1) ∧ w'.cell? ⟨gb178, 0, none⟩ = some (.int .i64 a2_0) ∧ w'.cell? ⟨gb178, 1, none⟩ = some (.int .u64 a2_1)) ∧ (w'.heap[gb176]? = some (.cells #[.int .i64 a0_0, .int .u64 a0_1] 24 (0, 0))) ∧ (w'.heap[gb177]? = some (.cells #[.int .i64 a1_0, .int .u64 a1_1] 24 (0, 0))) ∧ (w'.heap[gb178]? = some (.cells #[.int .i64 a2_0, .int .u64 a2_1] 24 (0, 0))) ∧ (w'.heap[s_.1]? = some (.cells #[.int .i64 0, .int .u64 0] 24 (0, 0))) ∧ (w'.heap[s_.2]? = some (.cells #[.int .i64 0, .int .u64 0] 24 (0, 0))) ∧ (w.heap.size ≤ s_.1) ∧ (w.heap.size ≤ s_.1) ∧ (gb176 ≠ s_.1) ∧ (s_.1 ≠ gb176) ∧ (gb177 ≠ s_.1) ∧ (s_.1 ≠ gb177) ∧ (gb178 ≠ s_.1) ∧ (s_.1 ≠ gb178) ∧ (s_.2 ≠ s_.1) ∧ (s_.1 ≠ s_.2) ∧ (w.heap.size ≤ s_.2) ∧ (w.heap.size ≤ s_.2) ∧ (gb176 ≠ s_.2) ∧ (s_.2 ≠ gb176) ∧ (gb177 ≠ s_.2) ∧ (s_.2 ≠ gb177) ∧ (gb178 ≠ s_.2) ∧ (s_.2 ≠ gb178) ∧ (Below w.heap.size w w')) ?_ ?_
                rotate_left
                ·intro hJ10_11
                 refine join_ (σ := Unit) 7 #[true, true, true, true, false, true, true, true, false, false, false, false, false, false] (fun s_ => [(11, .agg #[.int .i64 t179, .int .u64 t180])]) (fun s_ w' => (w'.cell? ⟨gb176, 0, none⟩ = some (.int .i64 a0_0) ∧ w'.cell? ⟨gb176, 1, none⟩ = some (.int .u64 a0_1) ∧ w'.cell? ⟨gb177, 0, none⟩ = some (.int .i64 a1_0) ∧ w'.cell? ⟨gb177, 1, none⟩ = some (.int .u64 a1_1) ∧ w'.cell? ⟨gb178, 0, none⟩ = some (.int .i64 a2_0) ∧ w'.cell? ⟨gb178, 1, none⟩ = some (.int .u64 a2_1)) ∧ (w'.heap[gb176]? = some (.cells #[.int .i64 a0_0, .int .u64 a0_1] 24 (0, 0))) ∧ (w'.heap[gb177]? = some (.cells #[.int .i64 a1_0, .int .u64 a1_1] 24 (0, 0))) ∧ (w'.heap[gb178]? = some (.cells #[.int .i64 a2_0, .int .u64 a2_1] 24 (0, 0))) ∧ (Below w.heap.size w w')) ?_ ?_
                 rotate_left
                 ·intro hJ2
                  refine join_ (σ := Nat) 7 #[true, true, false, true, false, true, true, true, false, false, true, false, false, false] (fun s_ => [(7, .pointer (some ⟨s_, 0, none⟩))]) (fun s_ w' => (w'.cell? ⟨gb176, 0, none⟩ = some (.int .i64 a0_0) ∧ w'.cell? ⟨gb176, 1, none⟩ = some (.int .u64 a0_1) ∧ w'.cell? ⟨gb177, 0, none⟩ = some (.int .i64 a1_0) ∧ w'.cell? ⟨gb177, 1, none⟩ = some (.int .u64 a1_1) ∧ w'.cell? ⟨gb178, 0, none⟩ = some (.int .i64 a2_0) ∧ w'.cell? ⟨gb178, 1, none⟩ = some (.int .u64 a2_1)) ∧ (w'.heap[gb176]? = some (.cells #[.int .i64 a0_0, .int .u64 a0_1] 24 (0, 0))) ∧ (w'.heap[gb177]? = some (.cells #[.int .i64 a1_0, .int .u64 a1_1] 24 (0, 0))) ∧ (w'.heap[gb178]? = some (.cells #[.int .i64 a2_0, .int .u64 a2_1] 24 (0, 0))) ∧ (w'.heap[s_]? = some (.cells #[.int .i64 0, .int .u64 0] 24 (0, 0))) ∧ (w.heap.size ≤ s_) ∧ (w.heap.size ≤ s_) ∧ (gb176 ≠ s_) ∧ (s_ ≠ gb176) ∧ (gb177 ≠ s_) ∧ (s_ ≠ gb177) ∧ (gb178 ≠ s_) ∧ (s_ ≠ gb178) ∧ (Below w.heap.size w w')) ?_ ?_
                  rotate_left
                  ·intro hJ10
                   refine join_ (σ := Nat) 7 #[true, true, false, true, false, true, true, true, false, false, false, true, false, false] (fun s_ => [(8, .pointer (some ⟨s_, 0, none⟩))]) (fun s_ w' => (w'.cell? ⟨gb176, 0, none⟩ = some (.int .i64 a0_0) ∧ w'.cell? ⟨gb176, 1, none⟩ = some (.int .u64 a0_1) ∧ w'.cell? ⟨gb177, 0, none⟩ = some (.int .i64 a1_0) ∧ w'.cell? ⟨gb177, 1, none⟩ = some (.int .u64 a1_1) ∧ w'.cell? ⟨gb178, 0, none⟩ = some (.int .i64 a2_0) ∧ w'.cell? ⟨gb178, 1, none⟩ = some (.int .u64 a2_1)) ∧ (w'.heap[gb176]? = some (.cells #[.int .i64 a0_0, .int .u64 a0_1] 24 (0, 0))) ∧ (w'.heap[gb177]? = some (.cells #[.int .i64 a1_0, .int .u64 a1_1] 24 (0, 0))) ∧ (w'.heap[gb178]? = some (.cells #[.int .i64 a2_0, .int .u64 a2_1] 24 (0, 0))) ∧ (w'.heap[s_]? = some (.cells #[.int .i64 0, .int .u64 0] 24 (0, 0))) ∧ (w.heap.size ≤ s_) ∧ (w.heap.size ≤ s_) ∧ (gb176 ≠ s_) ∧ (s_ ≠ gb176) ∧ (gb177 ≠ s_) ∧ (s_ ≠ gb177) ∧ (gb178 ≠ s_) ∧ (s_ ≠ gb178) ∧ (Below w.heap.size w w')) ?_ ?_
                   rotate_left
                   ·intro hJ11
                    refine three_ (i := 2) (j := 10) (k := 11) (Ni := some 11) (Nj := some 7) (Nk := some 8) #[true, true, true, true, false, true, true, true, false, false, false, false, false, false] #[true, true, false, true, false, true, true, true, false, false, true, false, false, false] #[true, true, false, true, false, true, true, true, false, false, false, true, false, false] rfl rfl rfl rfl rfl rfl (three_of HT_.out (by kernel_rfl)) (by decide) (by decide) (by decide) (fun K hK => ?_) (fun K hK => ?_) (fun K hK => ?_)
                    ·skip
                     refine goes_ Try.func21 (by kernel_rfl) rfl #[.agg #[.int .i64 a0_0, .int .u64 a0_1], .agg #[.int .i64 a1_0, .int .u64 a1_1]] (by rfl) rfl rfl (by (try simp only [List.map_toArray, List.map_cons, List.map_nil]); first | done | rfl | (simp only [List.length_drop, List.length_take]; rfl)) ?_
                     with_reducible refine (wide_Add.calls a0_0 a0_1 a1_0 a1_1 t179 t180 _ A4.out).mono ?_
                     rintro e w27 ⟨rfl, hb⟩
                     refine ⟨_, rfl, ?_⟩
                     have n0_ := AK_ (blk_below (by apply_rules [BK176.out, bN_, bD_, bA_]) hb)
                     have n1_ := AK_ (blk_below (by apply_rules [BK177.out, bN_, bD_, bA_]) hb)
                     have n2_ := AK_ (blk_below (by apply_rules [BK178.out, bN_, bD_, bA_]) hb)
                     have n3_ := AK_ (below_step (by repeat (first | exact HB.out | apply below_alloc | apply pw_below_drewN | apply below_drew1 | refine below_set ?_ GE176.out | refine below_set ?_ GE177.out | refine below_set ?_ GE178.out)) hb)
                     clear BK176 BK177 BK178 HB
                     have BK176 := n0_
                     have BK177 := n1_
                     have BK178 := n2_
                     have HB := n3_
                     clear n0_ n1_ n2_ n3_
                     (try clear hb)
                     (try clear hb2)
                     (try clear hk)
                     (try clear hi)
                     refine hK.out _ _ ⟨(blk_cell BK176.out 0).trans rfl, (blk_cell BK176.out 1).trans rfl, (blk_cell BK177.out 0).trans rfl, (blk_cell BK177.out 1).trans rfl, (blk_cell BK178.out 0).trans rfl, (blk_cell BK178.out 1).trans rfl⟩ (fun hHeld => ?_)
                     clear hK K
                     refine norm_ (a' := ?_) ?_ ?_
                     rotate_left
                     ·show Act.put _ (some 11) _ = _
                      simp only [Act.put, List.setIfInBounds_toArray, List.set_cons_zero, List.set_cons_succ, i64_w, i32_w]
                      rfl
                     exact norm_ (by simp only [putAll, Act.put, List.setIfInBounds_toArray, List.set_cons_zero, List.set_cons_succ] <;> rfl) (hJ2 () _ ⟨hHeld, (by apply_rules [BK176.out, bN_, bD_, bA_]), (by apply_rules [BK177.out, bN_, bD_, bA_]), (by apply_rules [BK178.out, bN_, bD_, bA_]), (by repeat (first | exact HB.out | apply below_alloc | apply pw_below_drewN | apply below_drew1 | refine below_set ?_ GE176.out | refine below_set ?_ GE177.out | refine below_set ?_ GE178.out))⟩)
                    ·skip
                     refine box_step ?hg (N := 7) ?hd (cs := #[.int .i64 0, .int .u64 0]) (t := 24) ?hr ?_; (case hd => rfl); (case hg => rfl); (case hr => first | (go_simp; done) | (go_simp; rfl))
                     intro gb187 hg w27 hbox hb
                     have n0_ := AK_ (blk_below (by apply_rules [BK176.out, bN_, bD_, bA_]) hb)
                     have n1_ := AK_ (blk_below (by apply_rules [BK177.out, bN_, bD_, bA_]) hb)
                     have n2_ := AK_ (blk_below (by apply_rules [BK178.out, bN_, bD_, bA_]) hb)
                     have n3_ := AK_ (below_step (by repeat (first | exact HB.out | apply below_alloc | apply pw_below_drewN | apply below_drew1 | refine below_set ?_ GE176.out | refine below_set ?_ GE177.out | refine below_set ?_ GE178.out)) hb)
                     have n4_ := AK_ (hbox)
                     have n5_ := AK_ ((by rw [hg]; exact (below_size (by repeat (first | exact HB.out | apply below_alloc | apply pw_below_drewN | apply below_drew1 | refine below_set ?_ GE176.out | refine below_set ?_ GE177.out | refine below_set ?_ GE178.out))) : w.heap.size ≤ gb187))
                     have n6_ := AK_ ((by rw [hg]; exact (below_size (by repeat (first | exact HB.out | apply below_alloc | apply pw_below_drewN | apply below_drew1 | refine below_set ?_ GE176.out | refine below_set ?_ GE177.out | refine below_set ?_ GE178.out))) : w.heap.size ≤ gb187))
                     have n7_ := AK_ ((by rw [hg]; exact Nat.ne_of_lt (blk_lt (g := gb176) (o := .cells #[.int .i64 a0_0, .int .u64 a0_1] 24 (0, 0)) (by apply_rules [BK176.out, bN_, bD_, bA_])) : gb176 ≠ gb187))
                     have n8_ := AK_ ((by rw [hg]; exact Nat.ne_of_gt (blk_lt (g := gb176) (o := .cells #[.int .i64 a0_0, .int .u64 a0_1] 24 (0, 0)) (by apply_rules [BK176.out, bN_, bD_, bA_])) : gb187 ≠ gb176))
                     have n9_ := AK_ ((by rw [hg]; exact Nat.ne_of_lt (blk_lt (g := gb177) (o := .cells #[.int .i64 a1_0, .int .u64 a1_1] 24 (0, 0)) (by apply_rules [BK177.out, bN_, bD_, bA_])) : gb177 ≠ gb187))
                     have n10_ := AK_ ((by rw [hg]; exact Nat.ne_of_gt (blk_lt (g := gb177) (o := .cells #[.int .i64 a1_0, .int .u64 a1_1] 24 (0, 0)) (by apply_rules [BK177.out, bN_, bD_, bA_])) : gb187 ≠ gb177))
                     have n11_ := AK_ ((by rw [hg]; exact Nat.ne_of_lt (blk_lt (g := gb178) (o := .cells #[.int .i64 a2_0, .int .u64 a2_1] 24 (0, 0)) (by apply_rules [BK178.out, bN_, bD_, bA_])) : gb178 ≠ gb187))
                     have n12_ := AK_ ((by rw [hg]; exact Nat.ne_of_gt (blk_lt (g := gb178) (o := .cells #[.int .i64 a2_0, .int .u64 a2_1] 24 (0, 0)) (by apply_rules [BK178.out, bN_, bD_, bA_])) : gb187 ≠ gb178))
                     clear BK176 BK177 BK178 HB
                     have BK176 := n0_
                     have BK177 := n1_
                     have BK178 := n2_
                     have HB := n3_
                     have BK187 := n4_
                     have GW187 := n5_
                     have GE187 := n6_
                     have NB176_187 := n7_
                     have NB187_176 := n8_
                     have NB177_187 := n9_
                     have NB187_177 := n10_
                     have NB178_187 := n11_
                     have NB187_178 := n12_
                     clear n0_ n1_ n2_ n3_ n4_ n5_ n6_ n7_ n8_ n9_ n10_ n11_ n12_
                     clear hb hbox hg
                     refine hK.out _ _ ⟨(blk_cell BK176.out 0).trans rfl, (blk_cell BK176.out 1).trans rfl, (blk_cell BK177.out 0).trans rfl, (blk_cell BK177.out 1).trans rfl, (blk_cell BK178.out 0).trans rfl, (blk_cell BK178.out 1).trans rfl⟩ (fun hHeld => ?_)
                     clear hK K
                     refine norm_ (a' := ?_) ?_ ?_
                     rotate_left
                     ·show Act.put _ (some 7) _ = _
                      simp only [Act.put, List.setIfInBounds_toArray, List.set_cons_zero, List.set_cons_succ, i64_w, i32_w]
                      rfl
                     exact norm_ (by simp only [putAll, Act.put, List.setIfInBounds_toArray, List.set_cons_zero, List.set_cons_succ] <;> rfl) (hJ10 (gb187) _ ⟨hHeld, (by apply_rules [BK176.out, bN_, bD_, bA_]), (by apply_rules [BK177.out, bN_, bD_, bA_]), (by apply_rules [BK178.out, bN_, bD_, bA_]), (by apply_rules [BK187.out, bN_, bD_, bA_]), GW187.out, GE187.out, NB176_187.out, NB187_176.out, NB177_187.out, NB187_177.out, NB178_187.out, NB187_178.out, (by repeat (first | exact HB.out | apply below_alloc | apply pw_below_drewN | apply below_drew1 | refine below_set ?_ GE176.out | refine below_set ?_ GE177.out | refine below_set ?_ GE178.out | refine below_set ?_ GE187.out))⟩)
                    ·skip
                     refine box_step ?hg (N := 8) ?hd (cs := #[.int .i64 0, .int .u64 0]) (t := 24) ?hr ?_; (case hd => rfl); (case hg => rfl); (case hr => first | (go_simp; done) | (go_simp; rfl))
                     intro gb188 hg w27 hbox hb
                     have n0_ := AK_ (blk_below (by apply_rules [BK176.out, bN_, bD_, bA_]) hb)
                     have n1_ := AK_ (blk_below (by apply_rules [BK177.out, bN_, bD_, bA_]) hb)
                     have n2_ := AK_ (blk_below (by apply_rules [BK178.out, bN_, bD_, bA_]) hb)
                     have n3_ := AK_ (below_step (by repeat (first | exact HB.out | apply below_alloc | apply pw_below_drewN | apply below_drew1 | refine below_set ?_ GE176.out | refine below_set ?_ GE177.out | refine below_set ?_ GE178.out)) hb)
                     have n4_ := AK_ (hbox)
                     have n5_ := AK_ ((by rw [hg]; exact (below_size (by repeat (first | exact HB.out | apply below_alloc | apply pw_below_drewN | apply below_drew1 | refine below_set ?_ GE176.out | refine below_set ?_ GE177.out | refine below_set ?_ GE178.out))) : w.heap.size ≤ gb188))
                     have n6_ := AK_ ((by rw [hg]; exact (below_size (by repeat (first | exact HB.out | apply below_alloc | apply pw_below_drewN | apply below_drew1 | refine below_set ?_ GE176.out | refine below_set ?_ GE177.out | refine below_set ?_ GE178.out))) : w.heap.size ≤ gb188))
                     have n7_ := AK_ ((by rw [hg]; exact Nat.ne_of_lt (blk_lt (g := gb176) (o := .cells #[.int .i64 a0_0, .int .u64 a0_1] 24 (0, 0)) (by apply_rules [BK176.out, bN_, bD_, bA_])) : gb176 ≠ gb188))
                     have n8_ := AK_ ((by rw [hg]; exact Nat.ne_of_gt (blk_lt (g := gb176) (o := .cells #[.int .i64 a0_0, .int .u64 a0_1] 24 (0, 0)) (by apply_rules [BK176.out, bN_, bD_, bA_])) : gb188 ≠ gb176))
                     have n9_ := AK_ ((by rw [hg]; exact Nat.ne_of_lt (blk_lt (g := gb177) (o := .cells #[.int .i64 a1_0, .int .u64 a1_1] 24 (0, 0)) (by apply_rules [BK177.out, bN_, bD_, bA_])) : gb177 ≠ gb188))
                     have n10_ := AK_ ((by rw [hg]; exact Nat.ne_of_gt (blk_lt (g := gb177) (o := .cells #[.int .i64 a1_0, .int .u64 a1_1] 24 (0, 0)) (by apply_rules [BK177.out, bN_, bD_, bA_])) : gb188 ≠ gb177))
                     have n11_ := AK_ ((by rw [hg]; exact Nat.ne_of_lt (blk_lt (g := gb178) (o := .cells #[.int .i64 a2_0, .int .u64 a2_1] 24 (0, 0)) (by apply_rules [BK178.out, bN_, bD_, bA_])) : gb178 ≠ gb188))
                     have n12_ := AK_ ((by rw [hg]; exact Nat.ne_of_gt (blk_lt (g := gb178) (o := .cells #[.int .i64 a2_0, .int .u64 a2_1] 24 (0, 0)) (by apply_rules [BK178.out, bN_, bD_, bA_])) : gb188 ≠ gb178))
                     clear BK176 BK177 BK178 HB
                     have BK176 := n0_
                     have BK177 := n1_
                     have BK178 := n2_
                     have HB := n3_
                     have BK188 := n4_
                     have GW188 := n5_
                     have GE188 := n6_
                     have NB176_188 := n7_
                     have NB188_176 := n8_
                     have NB177_188 := n9_
                     have NB188_177 := n10_
                     have NB178_188 := n11_
                     have NB188_178 := n12_
                     clear n0_ n1_ n2_ n3_ n4_ n5_ n6_ n7_ n8_ n9_ n10_ n11_ n12_
                     clear hb hbox hg
                     refine hK.out _ _ ⟨(blk_cell BK176.out 0).trans rfl, (blk_cell BK176.out 1).trans rfl, (blk_cell BK177.out 0).trans rfl, (blk_cell BK177.out 1).trans rfl, (blk_cell BK178.out 0).trans rfl, (blk_cell BK178.out 1).trans rfl⟩ (fun hHeld => ?_)
                     clear hK K
                     refine norm_ (a' := ?_) ?_ ?_
                     rotate_left
                     ·show Act.put _ (some 8) _ = _
                      simp only [Act.put, List.setIfInBounds_toArray, List.set_cons_zero, List.set_cons_succ, i64_w, i32_w]
                      rfl
                     exact norm_ (by simp only [putAll, Act.put, List.setIfInBounds_toArray, List.set_cons_zero, List.set_cons_succ] <;> rfl) (hJ11 (gb188) _ ⟨hHeld, (by apply_rules [BK176.out, bN_, bD_, bA_]), (by apply_rules [BK177.out, bN_, bD_, bA_]), (by apply_rules [BK178.out, bN_, bD_, bA_]), (by apply_rules [BK188.out, bN_, bD_, bA_]), GW188.out, GE188.out, NB176_188.out, NB188_176.out, NB177_188.out, NB188_177.out, NB178_188.out, NB188_178.out, (by repeat (first | exact HB.out | apply below_alloc | apply pw_below_drewN | apply below_drew1 | refine below_set ?_ GE176.out | refine below_set ?_ GE177.out | refine below_set ?_ GE178.out | refine below_set ?_ GE188.out))⟩)
                   ·skip
                    rintro gb188 w28 ⟨hS_, h0_, h1_, h2_, h3_, h4_, h5_, h6_, h7_, h8_, h9_, h10_, h11_, h12_⟩
                    have n0_ : Aside0 (w28.heap[gb176]? = some (.cells #[.int .i64 a0_0, .int .u64 a0_1] 24 (0, 0))) := ⟨h0_⟩
                    have n1_ : Aside0 (w28.heap[gb177]? = some (.cells #[.int .i64 a1_0, .int .u64 a1_1] 24 (0, 0))) := ⟨h1_⟩
                    have n2_ : Aside0 (w28.heap[gb178]? = some (.cells #[.int .i64 a2_0, .int .u64 a2_1] 24 (0, 0))) := ⟨h2_⟩
                    have n3_ : Aside0 (w28.heap[gb188]? = some (.cells #[.int .i64 0, .int .u64 0] 24 (0, 0))) := ⟨h3_⟩
                    have n4_ : Aside0 (w.heap.size ≤ gb188) := ⟨h4_⟩
                    have n5_ : Aside0 (w.heap.size ≤ gb188) := ⟨h5_⟩
                    have n6_ : Aside0 (gb176 ≠ gb188) := ⟨h6_⟩
                    have n7_ : Aside0 (gb188 ≠ gb176) := ⟨h7_⟩
                    have n8_ : Aside0 (gb177 ≠ gb188) := ⟨h8_⟩
                    have n9_ : Aside0 (gb188 ≠ gb177) := ⟨h9_⟩
                    have n10_ : Aside0 (gb178 ≠ gb188) := ⟨h10_⟩
                    have n11_ : Aside0 (gb188 ≠ gb178) := ⟨h11_⟩
                    have n12_ : Aside0 (Below w.heap.size w w28) := ⟨h12_⟩
                    clear BK176 BK177 BK178 HB h0_ h1_ h2_ h3_ h4_ h5_ h6_ h7_ h8_ h9_ h10_ h11_ h12_
                    have BK176 := n0_
                    have BK177 := n1_
                    have BK178 := n2_
                    have BK188 := n3_
                    have GW188 := n4_
                    have GE188 := n5_
                    have NB176_188 := n6_
                    have NB188_176 := n7_
                    have NB177_188 := n8_
                    have NB188_177 := n9_
                    have NB178_188 := n10_
                    have NB188_178 := n11_
                    have HB := n12_
                    clear n0_ n1_ n2_ n3_ n4_ n5_ n6_ n7_ n8_ n9_ n10_ n11_ n12_
                    have hHeld : w28.cell? ⟨gb176, 0, none⟩ = some (.int .i64 a0_0) ∧ w28.cell? ⟨gb176, 1, none⟩ = some (.int .u64 a0_1) ∧ w28.cell? ⟨gb177, 0, none⟩ = some (.int .i64 a1_0) ∧ w28.cell? ⟨gb177, 1, none⟩ = some (.int .u64 a1_1) ∧ w28.cell? ⟨gb178, 0, none⟩ = some (.int .i64 a2_0) ∧ w28.cell? ⟨gb178, 1, none⟩ = some (.int .u64 a2_1) := hS_
                    refine norm_ (a' := ?_) ?_ ?_
                    rotate_left
                    ·simp only [putAll, Act.put, List.setIfInBounds_toArray, List.set_cons_zero, List.set_cons_succ]
                     rfl
                    refine two_ (i := 2) (j := 10) (Ni := some 11) (Nj := some 7) #[true, true, true, true, false, true, true, true, false, false, false, true, false, false] #[true, true, false, true, false, true, true, true, false, false, true, true, false, false] rfl rfl rfl rfl (two_of HT_.out (by kernel_rfl)) (by decide) (by decide) (fun K hK => ?_) (fun K hK => ?_)
                    ·skip
                     refine goes_ Try.func21 (by kernel_rfl) rfl #[.agg #[.int .i64 a0_0, .int .u64 a0_1], .agg #[.int .i64 a1_0, .int .u64 a1_1]] (by rfl) rfl rfl (by (try simp only [List.map_toArray, List.map_cons, List.map_nil]); first | done | rfl | (simp only [List.length_drop, List.length_take]; rfl)) ?_
                     with_reducible refine (wide_Add.calls a0_0 a0_1 a1_0 a1_1 t179 t180 _ A4.out).mono ?_
                     rintro e w29 ⟨rfl, hb⟩
                     refine ⟨_, rfl, ?_⟩
                     have n0_ := AK_ (blk_below (by apply_rules [BK176.out, bN_, bD_, bA_]) hb)
                     have n1_ := AK_ (blk_below (by apply_rules [BK177.out, bN_, bD_, bA_]) hb)
                     have n2_ := AK_ (blk_below (by apply_rules [BK178.out, bN_, bD_, bA_]) hb)
                     have n3_ := AK_ (blk_below (by apply_rules [BK188.out, bN_, bD_, bA_]) hb)
                     have n4_ := AK_ (below_step (by repeat (first | exact HB.out | apply below_alloc | apply pw_below_drewN | apply below_drew1 | refine below_set ?_ GE176.out | refine below_set ?_ GE177.out | refine below_set ?_ GE178.out | refine below_set ?_ GE188.out)) hb)
                     clear BK176 BK177 BK178 BK188 HB
                     have BK176 := n0_
                     have BK177 := n1_
                     have BK178 := n2_
                     have BK188 := n3_
                     have HB := n4_
                     clear n0_ n1_ n2_ n3_ n4_
                     (try clear hb)
                     (try clear hb2)
                     (try clear hk)
                     (try clear hi)
                     refine hK.out _ _ ⟨(blk_cell BK176.out 0).trans rfl, (blk_cell BK176.out 1).trans rfl, (blk_cell BK177.out 0).trans rfl, (blk_cell BK177.out 1).trans rfl, (blk_cell BK178.out 0).trans rfl, (blk_cell BK178.out 1).trans rfl⟩ (fun hHeld => ?_)
                     clear hK K
                     refine norm_ (a' := ?_) ?_ ?_
                     rotate_left
                     ·show Act.put _ (some 11) _ = _
                      simp only [Act.put, List.setIfInBounds_toArray, List.set_cons_zero, List.set_cons_succ, i64_w, i32_w]
                      rfl
                     exact norm_ (by simp only [putAll, Act.put, List.setIfInBounds_toArray, List.set_cons_zero, List.set_cons_succ] <;> rfl) (hJ2_11 (gb188) _ ⟨hHeld, (by apply_rules [BK176.out, bN_, bD_, bA_]), (by apply_rules [BK177.out, bN_, bD_, bA_]), (by apply_rules [BK178.out, bN_, bD_, bA_]), (by apply_rules [BK188.out, bN_, bD_, bA_]), GW188.out, GE188.out, NB176_188.out, NB188_176.out, NB177_188.out, NB188_177.out, NB178_188.out, NB188_178.out, (by repeat (first | exact HB.out | apply below_alloc | apply pw_below_drewN | apply below_drew1 | refine below_set ?_ GE176.out | refine below_set ?_ GE177.out | refine below_set ?_ GE178.out | refine below_set ?_ GE188.out))⟩)
                    ·skip
                     refine box_step ?hg (N := 7) ?hd (cs := #[.int .i64 0, .int .u64 0]) (t := 24) ?hr ?_; (case hd => rfl); (case hg => rfl); (case hr => first | (go_simp; done) | (go_simp; rfl))
                     intro gb187 hg w29 hbox hb
                     have n0_ := AK_ (blk_below (by apply_rules [BK176.out, bN_, bD_, bA_]) hb)
                     have n1_ := AK_ (blk_below (by apply_rules [BK177.out, bN_, bD_, bA_]) hb)
                     have n2_ := AK_ (blk_below (by apply_rules [BK178.out, bN_, bD_, bA_]) hb)
                     have n3_ := AK_ (blk_below (by apply_rules [BK188.out, bN_, bD_, bA_]) hb)
                     have n4_ := AK_ (below_step (by repeat (first | exact HB.out | apply below_alloc | apply pw_below_drewN | apply below_drew1 | refine below_set ?_ GE176.out | refine below_set ?_ GE177.out | refine below_set ?_ GE178.out | refine below_set ?_ GE188.out)) hb)
                     have n5_ := AK_ (hbox)
                     have n6_ := AK_ ((by rw [hg]; exact (below_size (by repeat (first | exact HB.out | apply below_alloc | apply pw_below_drewN | apply below_drew1 | refine below_set ?_ GE176.out | refine below_set ?_ GE177.out | refine below_set ?_ GE178.out | refine below_set ?_ GE188.out))) : w.heap.size ≤ gb187))
                     have n7_ := AK_ ((by rw [hg]; exact (below_size (by repeat (first | exact HB.out | apply below_alloc | apply pw_below_drewN | apply below_drew1 | refine below_set ?_ GE176.out | refine below_set ?_ GE177.out | refine below_set ?_ GE178.out | refine below_set ?_ GE188.out))) : w.heap.size ≤ gb187))
                     have n8_ := AK_ ((by rw [hg]; exact Nat.ne_of_lt (blk_lt (g := gb176) (o := .cells #[.int .i64 a0_0, .int .u64 a0_1] 24 (0, 0)) (by apply_rules [BK176.out, bN_, bD_, bA_])) : gb176 ≠ gb187))
                     have n9_ := AK_ ((by rw [hg]; exact Nat.ne_of_gt (blk_lt (g := gb176) (o := .cells #[.int .i64 a0_0, .int .u64 a0_1] 24 (0, 0)) (by apply_rules [BK176.out, bN_, bD_, bA_])) : gb187 ≠ gb176))
                     have n10_ := AK_ ((by rw [hg]; exact Nat.ne_of_lt (blk_lt (g := gb177) (o := .cells #[.int .i64 a1_0, .int .u64 a1_1] 24 (0, 0)) (by apply_rules [BK177.out, bN_, bD_, bA_])) : gb177 ≠ gb187))
                     have n11_ := AK_ ((by rw [hg]; exact Nat.ne_of_gt (blk_lt (g := gb177) (o := .cells #[.int .i64 a1_0, .int .u64 a1_1] 24 (0, 0)) (by apply_rules [BK177.out, bN_, bD_, bA_])) : gb187 ≠ gb177))
                     have n12_ := AK_ ((by rw [hg]; exact Nat.ne_of_lt (blk_lt (g := gb178) (o := .cells #[.int .i64 a2_0, .int .u64 a2_1] 24 (0, 0)) (by apply_rules [BK178.out, bN_, bD_, bA_])) : gb178 ≠ gb187))
                     have n13_ := AK_ ((by rw [hg]; exact Nat.ne_of_gt (blk_lt (g := gb178) (o := .cells #[.int .i64 a2_0, .int .u64 a2_1] 24 (0, 0)) (by apply_rules [BK178.out, bN_, bD_, bA_])) : gb187 ≠ gb178))
                     have n14_ := AK_ ((by rw [hg]; exact Nat.ne_of_lt (blk_lt (g := gb188) (o := .cells #[.int .i64 0, .int .u64 0] 24 (0, 0)) (by apply_rules [BK188.out, bN_, bD_, bA_])) : gb188 ≠ gb187))
                     have n15_ := AK_ ((by rw [hg]; exact Nat.ne_of_gt (blk_lt (g := gb188) (o := .cells #[.int .i64 0, .int .u64 0] 24 (0, 0)) (by apply_rules [BK188.out, bN_, bD_, bA_])) : gb187 ≠ gb188))
                     clear BK176 BK177 BK178 BK188 HB
                     have BK176 := n0_
                     have BK177 := n1_
                     have BK178 := n2_
                     have BK188 := n3_
                     have HB := n4_
                     have BK187 := n5_
                     have GW187 := n6_
                     have GE187 := n7_
                     have NB176_187 := n8_
                     have NB187_176 := n9_
                     have NB177_187 := n10_
                     have NB187_177 := n11_
                     have NB178_187 := n12_
                     have NB187_178 := n13_
                     have NB188_187 := n14_
                     have NB187_188 := n15_
                     clear n0_ n1_ n2_ n3_ n4_ n5_ n6_ n7_ n8_ n9_ n10_ n11_ n12_ n13_ n14_ n15_
                     clear hb hbox hg
                     refine hK.out _ _ ⟨(blk_cell BK176.out 0).trans rfl, (blk_cell BK176.out 1).trans rfl, (blk_cell BK177.out 0).trans rfl, (blk_cell BK177.out 1).trans rfl, (blk_cell BK178.out 0).trans rfl, (blk_cell BK178.out 1).trans rfl⟩ (fun hHeld => ?_)
                     clear hK K
                     refine norm_ (a' := ?_) ?_ ?_
                     rotate_left
                     ·show Act.put _ (some 7) _ = _
                      simp only [Act.put, List.setIfInBounds_toArray, List.set_cons_zero, List.set_cons_succ, i64_w, i32_w]
                      rfl
                     exact norm_ (by simp only [putAll, Act.put, List.setIfInBounds_toArray, List.set_cons_zero, List.set_cons_succ] <;> rfl) (hJ10_11 (gb187, gb188) _ ⟨hHeld, (by apply_rules [BK176.out, bN_, bD_, bA_]), (by apply_rules [BK177.out, bN_, bD_, bA_]), (by apply_rules [BK178.out, bN_, bD_, bA_]), (by apply_rules [BK187.out, bN_, bD_, bA_]), (by apply_rules [BK188.out, bN_, bD_, bA_]), GW187.out, GE187.out, NB176_187.out, NB187_176.out, NB177_187.out, NB187_177.out, NB178_187.out, NB187_178.out, NB188_187.out, NB187_188.out, GW188.out, GE188.out, NB176_188.out, NB188_176.out, NB177_188.out, NB188_177.out, NB178_188.out, NB188_178.out, (by repeat (first | exact HB.out | apply below_alloc | apply pw_below_drewN | apply below_drew1 | refine below_set ?_ GE176.out | refine below_set ?_ GE177.out | refine below_set ?_ GE178.out | refine below_set ?_ GE188.out | refine below_set ?_ GE187.out))⟩)
                  ·skip
                   rintro gb187 w28 ⟨hS_, h0_, h1_, h2_, h3_, h4_, h5_, h6_, h7_, h8_, h9_, h10_, h11_, h12_⟩
                   have n0_ : Aside0 (w28.heap[gb176]? = some (.cells #[.int .i64 a0_0, .int .u64 a0_1] 24 (0, 0))) := ⟨h0_⟩
                   have n1_ : Aside0 (w28.heap[gb177]? = some (.cells #[.int .i64 a1_0, .int .u64 a1_1] 24 (0, 0))) := ⟨h1_⟩
                   have n2_ : Aside0 (w28.heap[gb178]? = some (.cells #[.int .i64 a2_0, .int .u64 a2_1] 24 (0, 0))) := ⟨h2_⟩
                   have n3_ : Aside0 (w28.heap[gb187]? = some (.cells #[.int .i64 0, .int .u64 0] 24 (0, 0))) := ⟨h3_⟩
                   have n4_ : Aside0 (w.heap.size ≤ gb187) := ⟨h4_⟩
                   have n5_ : Aside0 (w.heap.size ≤ gb187) := ⟨h5_⟩
                   have n6_ : Aside0 (gb176 ≠ gb187) := ⟨h6_⟩
                   have n7_ : Aside0 (gb187 ≠ gb176) := ⟨h7_⟩
                   have n8_ : Aside0 (gb177 ≠ gb187) := ⟨h8_⟩
                   have n9_ : Aside0 (gb187 ≠ gb177) := ⟨h9_⟩
                   have n10_ : Aside0 (gb178 ≠ gb187) := ⟨h10_⟩
                   have n11_ : Aside0 (gb187 ≠ gb178) := ⟨h11_⟩
                   have n12_ : Aside0 (Below w.heap.size w w28) := ⟨h12_⟩
                   clear BK176 BK177 BK178 HB h0_ h1_ h2_ h3_ h4_ h5_ h6_ h7_ h8_ h9_ h10_ h11_ h12_
                   have BK176 := n0_
                   have BK177 := n1_
                   have BK178 := n2_
                   have BK187 := n3_
                   have GW187 := n4_
                   have GE187 := n5_
                   have NB176_187 := n6_
                   have NB187_176 := n7_
                   have NB177_187 := n8_
                   have NB187_177 := n9_
                   have NB178_187 := n10_
                   have NB187_178 := n11_
                   have HB := n12_
                   clear n0_ n1_ n2_ n3_ n4_ n5_ n6_ n7_ n8_ n9_ n10_ n11_ n12_
                   have hHeld : w28.cell? ⟨gb176, 0, none⟩ = some (.int .i64 a0_0) ∧ w28.cell? ⟨gb176, 1, none⟩ = some (.int .u64 a0_1) ∧ w28.cell? ⟨gb177, 0, none⟩ = some (.int .i64 a1_0) ∧ w28.cell? ⟨gb177, 1, none⟩ = some (.int .u64 a1_1) ∧ w28.cell? ⟨gb178, 0, none⟩ = some (.int .i64 a2_0) ∧ w28.cell? ⟨gb178, 1, none⟩ = some (.int .u64 a2_1) := hS_
                   refine norm_ (a' := ?_) ?_ ?_
                   rotate_left
                   ·simp only [putAll, Act.put, List.setIfInBounds_toArray, List.set_cons_zero, List.set_cons_succ]
                    rfl
                   refine two_ (i := 2) (j := 11) (Ni := some 11) (Nj := some 8) #[true, true, true, true, false, true, true, true, false, false, true, false, false, false] #[true, true, false, true, false, true, true, true, false, false, true, true, false, false] rfl rfl rfl rfl (two_of HT_.out (by kernel_rfl)) (by decide) (by decide) (fun K hK => ?_) (fun K hK => ?_)
                   ·skip
                    refine goes_ Try.func21 (by kernel_rfl) rfl #[.agg #[.int .i64 a0_0, .int .u64 a0_1], .agg #[.int .i64 a1_0, .int .u64 a1_1]] (by rfl) rfl rfl (by (try simp only [List.map_toArray, List.map_cons, List.map_nil]); first | done | rfl | (simp only [List.length_drop, List.length_take]; rfl)) ?_
                    with_reducible refine (wide_Add.calls a0_0 a0_1 a1_0 a1_1 t179 t180 _ A4.out).mono ?_
                    rintro e w29 ⟨rfl, hb⟩
                    refine ⟨_, rfl, ?_⟩
                    have n0_ := AK_ (blk_below (by apply_rules [BK176.out, bN_, bD_, bA_]) hb)
                    have n1_ := AK_ (blk_below (by apply_rules [BK177.out, bN_, bD_, bA_]) hb)
                    have n2_ := AK_ (blk_below (by apply_rules [BK178.out, bN_, bD_, bA_]) hb)
                    have n3_ := AK_ (blk_below (by apply_rules [BK187.out, bN_, bD_, bA_]) hb)
                    have n4_ := AK_ (below_step (by repeat (first | exact HB.out | apply below_alloc | apply pw_below_drewN | apply below_drew1 | refine below_set ?_ GE176.out | refine below_set ?_ GE177.out | refine below_set ?_ GE178.out | refine below_set ?_ GE187.out)) hb)
                    clear BK176 BK177 BK178 BK187 HB
                    have BK176 := n0_
                    have BK177 := n1_
                    have BK178 := n2_
                    have BK187 := n3_
                    have HB := n4_
                    clear n0_ n1_ n2_ n3_ n4_
                    (try clear hb)
                    (try clear hb2)
                    (try clear hk)
                    (try clear hi)
                    refine hK.out _ _ ⟨(blk_cell BK176.out 0).trans rfl, (blk_cell BK176.out 1).trans rfl, (blk_cell BK177.out 0).trans rfl, (blk_cell BK177.out 1).trans rfl, (blk_cell BK178.out 0).trans rfl, (blk_cell BK178.out 1).trans rfl⟩ (fun hHeld => ?_)
                    clear hK K
                    refine norm_ (a' := ?_) ?_ ?_
                    rotate_left
                    ·show Act.put _ (some 11) _ = _
                     simp only [Act.put, List.setIfInBounds_toArray, List.set_cons_zero, List.set_cons_succ, i64_w, i32_w]
                     rfl
                    exact norm_ (by simp only [putAll, Act.put, List.setIfInBounds_toArray, List.set_cons_zero, List.set_cons_succ] <;> rfl) (hJ2_10 (gb187) _ ⟨hHeld, (by apply_rules [BK176.out, bN_, bD_, bA_]), (by apply_rules [BK177.out, bN_, bD_, bA_]), (by apply_rules [BK178.out, bN_, bD_, bA_]), (by apply_rules [BK187.out, bN_, bD_, bA_]), GW187.out, GE187.out, NB176_187.out, NB187_176.out, NB177_187.out, NB187_177.out, NB178_187.out, NB187_178.out, (by repeat (first | exact HB.out | apply below_alloc | apply pw_below_drewN | apply below_drew1 | refine below_set ?_ GE176.out | refine below_set ?_ GE177.out | refine below_set ?_ GE178.out | refine below_set ?_ GE187.out))⟩)
                   ·skip
                    refine box_step ?hg (N := 8) ?hd (cs := #[.int .i64 0, .int .u64 0]) (t := 24) ?hr ?_; (case hd => rfl); (case hg => rfl); (case hr => first | (go_simp; done) | (go_simp; rfl))
                    intro gb188 hg w29 hbox hb
                    have n0_ := AK_ (blk_below (by apply_rules [BK176.out, bN_, bD_, bA_]) hb)
                    have n1_ := AK_ (blk_below (by apply_rules [BK177.out, bN_, bD_, bA_]) hb)
                    have n2_ := AK_ (blk_below (by apply_rules [BK178.out, bN_, bD_, bA_]) hb)
                    have n3_ := AK_ (blk_below (by apply_rules [BK187.out, bN_, bD_, bA_]) hb)
                    have n4_ := AK_ (below_step (by repeat (first | exact HB.out | apply below_alloc | apply pw_below_drewN | apply below_drew1 | refine below_set ?_ GE176.out | refine below_set ?_ GE177.out | refine below_set ?_ GE178.out | refine below_set ?_ GE187.out)) hb)
                    have n5_ := AK_ (hbox)
                    have n6_ := AK_ ((by rw [hg]; exact (below_size (by repeat (first | exact HB.out | apply below_alloc | apply pw_below_drewN | apply below_drew1 | refine below_set ?_ GE176.out | refine below_set ?_ GE177.out | refine below_set ?_ GE178.out | refine below_set ?_ GE187.out))) : w.heap.size ≤ gb188))
                    have n7_ := AK_ ((by rw [hg]; exact (below_size (by repeat (first | exact HB.out | apply below_alloc | apply pw_below_drewN | apply below_drew1 | refine below_set ?_ GE176.out | refine below_set ?_ GE177.out | refine below_set ?_ GE178.out | refine below_set ?_ GE187.out))) : w.heap.size ≤ gb188))
                    have n8_ := AK_ ((by rw [hg]; exact Nat.ne_of_lt (blk_lt (g := gb176) (o := .cells #[.int .i64 a0_0, .int .u64 a0_1] 24 (0, 0)) (by apply_rules [BK176.out, bN_, bD_, bA_])) : gb176 ≠ gb188))
                    have n9_ := AK_ ((by rw [hg]; exact Nat.ne_of_gt (blk_lt (g := gb176) (o := .cells #[.int .i64 a0_0, .int .u64 a0_1] 24 (0, 0)) (by apply_rules [BK176.out, bN_, bD_, bA_])) : gb188 ≠ gb176))
                    have n10_ := AK_ ((by rw [hg]; exact Nat.ne_of_lt (blk_lt (g := gb177) (o := .cells #[.int .i64 a1_0, .int .u64 a1_1] 24 (0, 0)) (by apply_rules [BK177.out, bN_, bD_, bA_])) : gb177 ≠ gb188))
                    have n11_ := AK_ ((by rw [hg]; exact Nat.ne_of_gt (blk_lt (g := gb177) (o := .cells #[.int .i64 a1_0, .int .u64 a1_1] 24 (0, 0)) (by apply_rules [BK177.out, bN_, bD_, bA_])) : gb188 ≠ gb177))
                    have n12_ := AK_ ((by rw [hg]; exact Nat.ne_of_lt (blk_lt (g := gb178) (o := .cells #[.int .i64 a2_0, .int .u64 a2_1] 24 (0, 0)) (by apply_rules [BK178.out, bN_, bD_, bA_])) : gb178 ≠ gb188))
                    have n13_ := AK_ ((by rw [hg]; exact Nat.ne_of_gt (blk_lt (g := gb178) (o := .cells #[.int .i64 a2_0, .int .u64 a2_1] 24 (0, 0)) (by apply_rules [BK178.out, bN_, bD_, bA_])) : gb188 ≠ gb178))
                    have n14_ := AK_ ((by rw [hg]; exact Nat.ne_of_lt (blk_lt (g := gb187) (o := .cells #[.int .i64 0, .int .u64 0] 24 (0, 0)) (by apply_rules [BK187.out, bN_, bD_, bA_])) : gb187 ≠ gb188))
                    have n15_ := AK_ ((by rw [hg]; exact Nat.ne_of_gt (blk_lt (g := gb187) (o := .cells #[.int .i64 0, .int .u64 0] 24 (0, 0)) (by apply_rules [BK187.out, bN_, bD_, bA_])) : gb188 ≠ gb187))
                    clear BK176 BK177 BK178 BK187 HB
                    have BK176 := n0_
                    have BK177 := n1_
                    have BK178 := n2_
                    have BK187 := n3_
                    have HB := n4_
                    have BK188 := n5_
                    have GW188 := n6_
                    have GE188 := n7_
                    have NB176_188 := n8_
                    have NB188_176 := n9_
                    have NB177_188 := n10_
                    have NB188_177 := n11_
                    have NB178_188 := n12_
                    have NB188_178 := n13_
                    have NB187_188 := n14_
                    have NB188_187 := n15_
                    clear n0_ n1_ n2_ n3_ n4_ n5_ n6_ n7_ n8_ n9_ n10_ n11_ n12_ n13_ n14_ n15_
                    clear hb hbox hg
                    refine hK.out _ _ ⟨(blk_cell BK176.out 0).trans rfl, (blk_cell BK176.out 1).trans rfl, (blk_cell BK177.out 0).trans rfl, (blk_cell BK177.out 1).trans rfl, (blk_cell BK178.out 0).trans rfl, (blk_cell BK178.out 1).trans rfl⟩ (fun hHeld => ?_)
                    clear hK K
                    refine norm_ (a' := ?_) ?_ ?_
                    rotate_left
                    ·show Act.put _ (some 8) _ = _
                     simp only [Act.put, List.setIfInBounds_toArray, List.set_cons_zero, List.set_cons_succ, i64_w, i32_w]
                     rfl
                    exact norm_ (by simp only [putAll, Act.put, List.setIfInBounds_toArray, List.set_cons_zero, List.set_cons_succ] <;> rfl) (hJ10_11 (gb187, gb188) _ ⟨hHeld, (by apply_rules [BK176.out, bN_, bD_, bA_]), (by apply_rules [BK177.out, bN_, bD_, bA_]), (by apply_rules [BK178.out, bN_, bD_, bA_]), (by apply_rules [BK187.out, bN_, bD_, bA_]), (by apply_rules [BK188.out, bN_, bD_, bA_]), GW187.out, GE187.out, NB176_187.out, NB187_176.out, NB177_187.out, NB187_177.out, NB178_187.out, NB187_178.out, NB188_187.out, NB187_188.out, GW188.out, GE188.out, NB176_188.out, NB188_176.out, NB177_188.out, NB188_177.out, NB178_188.out, NB188_178.out, (by repeat (first | exact HB.out | apply below_alloc | apply pw_below_drewN | apply below_drew1 | refine below_set ?_ GE176.out | refine below_set ?_ GE177.out | refine below_set ?_ GE178.out | refine below_set ?_ GE187.out | refine below_set ?_ GE188.out))⟩)
                 ·skip
                  rintro _ w28 ⟨hS_, h0_, h1_, h2_, h3_⟩
                  have n0_ : Aside0 (w28.heap[gb176]? = some (.cells #[.int .i64 a0_0, .int .u64 a0_1] 24 (0, 0))) := ⟨h0_⟩
                  have n1_ : Aside0 (w28.heap[gb177]? = some (.cells #[.int .i64 a1_0, .int .u64 a1_1] 24 (0, 0))) := ⟨h1_⟩
                  have n2_ : Aside0 (w28.heap[gb178]? = some (.cells #[.int .i64 a2_0, .int .u64 a2_1] 24 (0, 0))) := ⟨h2_⟩
                  have n3_ : Aside0 (Below w.heap.size w w28) := ⟨h3_⟩
                  clear BK176 BK177 BK178 HB h0_ h1_ h2_ h3_
                  have BK176 := n0_
                  have BK177 := n1_
                  have BK178 := n2_
                  have HB := n3_
                  clear n0_ n1_ n2_ n3_
                  have hHeld : w28.cell? ⟨gb176, 0, none⟩ = some (.int .i64 a0_0) ∧ w28.cell? ⟨gb176, 1, none⟩ = some (.int .u64 a0_1) ∧ w28.cell? ⟨gb177, 0, none⟩ = some (.int .i64 a1_0) ∧ w28.cell? ⟨gb177, 1, none⟩ = some (.int .u64 a1_1) ∧ w28.cell? ⟨gb178, 0, none⟩ = some (.int .i64 a2_0) ∧ w28.cell? ⟨gb178, 1, none⟩ = some (.int .u64 a2_1) := hS_
                  refine norm_ (a' := ?_) ?_ ?_
                  rotate_left
                  ·simp only [putAll, Act.put, List.setIfInBounds_toArray, List.set_cons_zero, List.set_cons_succ]
                   rfl
                  refine three_ (i := 4) (j := 10) (k := 11) (Ni := some 13) (Nj := some 7) (Nk := some 8) #[true, true, true, true, true, true, true, true, false, false, false, false, false, false] #[true, true, true, true, false, true, true, true, false, false, true, false, false, false] #[true, true, true, true, false, true, true, true, false, false, false, true, false, false] rfl rfl rfl rfl rfl rfl (three_of HT_.out (by kernel_rfl)) (by decide) (by decide) (by decide) (fun K hK => ?_) (fun K hK => ?_) (fun K hK => ?_)
                  ·skip
                   refine goes_ Try.func21 (by kernel_rfl) rfl #[.agg #[.int .i64 t179, .int .u64 t180], .agg #[.int .i64 a2_0, .int .u64 a2_1]] (by rfl) rfl rfl (by (try simp only [List.map_toArray, List.map_cons, List.map_nil]); first | done | rfl | (simp only [List.length_drop, List.length_take]; rfl)) ?_
                   with_reducible refine (wide_Add.calls t179 t180 a2_0 a2_1 t181 t182 _ A5.out).mono ?_
                   rintro e w29 ⟨rfl, hb⟩
                   refine ⟨_, rfl, ?_⟩
                   have n0_ := AK_ (blk_below (by apply_rules [BK176.out, bN_, bD_, bA_]) hb)
                   have n1_ := AK_ (blk_below (by apply_rules [BK177.out, bN_, bD_, bA_]) hb)
                   have n2_ := AK_ (blk_below (by apply_rules [BK178.out, bN_, bD_, bA_]) hb)
                   have n3_ := AK_ (below_step (by repeat (first | exact HB.out | apply below_alloc | apply pw_below_drewN | apply below_drew1 | refine below_set ?_ GE176.out | refine below_set ?_ GE177.out | refine below_set ?_ GE178.out)) hb)
                   clear BK176 BK177 BK178 HB
                   have BK176 := n0_
                   have BK177 := n1_
                   have BK178 := n2_
                   have HB := n3_
                   clear n0_ n1_ n2_ n3_
                   (try clear hb)
                   (try clear hb2)
                   (try clear hk)
                   (try clear hi)
                   refine hK.out _ _ ⟨(blk_cell BK176.out 0).trans rfl, (blk_cell BK176.out 1).trans rfl, (blk_cell BK177.out 0).trans rfl, (blk_cell BK177.out 1).trans rfl, (blk_cell BK178.out 0).trans rfl, (blk_cell BK178.out 1).trans rfl⟩ (fun hHeld => ?_)
                   clear hK K
                   refine norm_ (a' := ?_) ?_ ?_
                   rotate_left
                   ·show Act.put _ (some 13) _ = _
                    simp only [Act.put, List.setIfInBounds_toArray, List.set_cons_zero, List.set_cons_succ, i64_w, i32_w]
                    rfl
                   exact norm_ (by simp only [putAll, Act.put, List.setIfInBounds_toArray, List.set_cons_zero, List.set_cons_succ] <;> rfl) (hJ2_4 () _ ⟨hHeld, (by apply_rules [BK176.out, bN_, bD_, bA_]), (by apply_rules [BK177.out, bN_, bD_, bA_]), (by apply_rules [BK178.out, bN_, bD_, bA_]), (by repeat (first | exact HB.out | apply below_alloc | apply pw_below_drewN | apply below_drew1 | refine below_set ?_ GE176.out | refine below_set ?_ GE177.out | refine below_set ?_ GE178.out))⟩)
                  ·skip
                   refine box_step ?hg (N := 7) ?hd (cs := #[.int .i64 0, .int .u64 0]) (t := 24) ?hr ?_; (case hd => rfl); (case hg => rfl); (case hr => first | (go_simp; done) | (go_simp; rfl))
                   intro gb187 hg w29 hbox hb
                   have n0_ := AK_ (blk_below (by apply_rules [BK176.out, bN_, bD_, bA_]) hb)
                   have n1_ := AK_ (blk_below (by apply_rules [BK177.out, bN_, bD_, bA_]) hb)
                   have n2_ := AK_ (blk_below (by apply_rules [BK178.out, bN_, bD_, bA_]) hb)
                   have n3_ := AK_ (below_step (by repeat (first | exact HB.out | apply below_alloc | apply pw_below_drewN | apply below_drew1 | refine below_set ?_ GE176.out | refine below_set ?_ GE177.out | refine below_set ?_ GE178.out)) hb)
                   have n4_ := AK_ (hbox)
                   have n5_ := AK_ ((by rw [hg]; exact (below_size (by repeat (first | exact HB.out | apply below_alloc | apply pw_below_drewN | apply below_drew1 | refine below_set ?_ GE176.out | refine below_set ?_ GE177.out | refine below_set ?_ GE178.out))) : w.heap.size ≤ gb187))
                   have n6_ := AK_ ((by rw [hg]; exact (below_size (by repeat (first | exact HB.out | apply below_alloc | apply pw_below_drewN | apply below_drew1 | refine below_set ?_ GE176.out | refine below_set ?_ GE177.out | refine below_set ?_ GE178.out))) : w.heap.size ≤ gb187))
                   have n7_ := AK_ ((by rw [hg]; exact Nat.ne_of_lt (blk_lt (g := gb176) (o := .cells #[.int .i64 a0_0, .int .u64 a0_1] 24 (0, 0)) (by apply_rules [BK176.out, bN_, bD_, bA_])) : gb176 ≠ gb187))
                   have n8_ := AK_ ((by rw [hg]; exact Nat.ne_of_gt (blk_lt (g := gb176) (o := .cells #[.int .i64 a0_0, .int .u64 a0_1] 24 (0, 0)) (by apply_rules [BK176.out, bN_, bD_, bA_])) : gb187 ≠ gb176))
                   have n9_ := AK_ ((by rw [hg]; exact Nat.ne_of_lt (blk_lt (g := gb177) (o := .cells #[.int .i64 a1_0, .int .u64 a1_1] 24 (0, 0)) (by apply_rules [BK177.out, bN_, bD_, bA_])) : gb177 ≠ gb187))
                   have n10_ := AK_ ((by rw [hg]; exact Nat.ne_of_gt (blk_lt (g := gb177) (o := .cells #[.int .i64 a1_0, .int .u64 a1_1] 24 (0, 0)) (by apply_rules [BK177.out, bN_, bD_, bA_])) : gb187 ≠ gb177))
                   have n11_ := AK_ ((by rw [hg]; exact Nat.ne_of_lt (blk_lt (g := gb178) (o := .cells #[.int .i64 a2_0, .int .u64 a2_1] 24 (0, 0)) (by apply_rules [BK178.out, bN_, bD_, bA_])) : gb178 ≠ gb187))
                   have n12_ := AK_ ((by rw [hg]; exact Nat.ne_of_gt (blk_lt (g := gb178) (o := .cells #[.int .i64 a2_0, .int .u64 a2_1] 24 (0, 0)) (by apply_rules [BK178.out, bN_, bD_, bA_])) : gb187 ≠ gb178))
                   clear BK176 BK177 BK178 HB
                   have BK176 := n0_
                   have BK177 := n1_
                   have BK178 := n2_
                   have HB := n3_
                   have BK187 := n4_
                   have GW187 := n5_
                   have GE187 := n6_
                   have NB176_187 := n7_
                   have NB187_176 := n8_
                   have NB177_187 := n9_
                   have NB187_177 := n10_
                   have NB178_187 := n11_
                   have NB187_178 := n12_
                   clear n0_ n1_ n2_ n3_ n4_ n5_ n6_ n7_ n8_ n9_ n10_ n11_ n12_
                   clear hb hbox hg
                   refine hK.out _ _ ⟨(blk_cell BK176.out 0).trans rfl, (blk_cell BK176.out 1).trans rfl, (blk_cell BK177.out 0).trans rfl, (blk_cell BK177.out 1).trans rfl, (blk_cell BK178.out 0).trans rfl, (blk_cell BK178.out 1).trans rfl⟩ (fun hHeld => ?_)
                   clear hK K
                   refine norm_ (a' := ?_) ?_ ?_
                   rotate_left
                   ·show Act.put _ (some 7) _ = _
                    simp only [Act.put, List.setIfInBounds_toArray, List.set_cons_zero, List.set_cons_succ, i64_w, i32_w]
                    rfl
                   exact norm_ (by simp only [putAll, Act.put, List.setIfInBounds_toArray, List.set_cons_zero, List.set_cons_succ] <;> rfl) (hJ2_10 (gb187) _ ⟨hHeld, (by apply_rules [BK176.out, bN_, bD_, bA_]), (by apply_rules [BK177.out, bN_, bD_, bA_]), (by apply_rules [BK178.out, bN_, bD_, bA_]), (by apply_rules [BK187.out, bN_, bD_, bA_]), GW187.out, GE187.out, NB176_187.out, NB187_176.out, NB177_187.out, NB187_177.out, NB178_187.out, NB187_178.out, (by repeat (first | exact HB.out | apply below_alloc | apply pw_below_drewN | apply below_drew1 | refine below_set ?_ GE176.out | refine below_set ?_ GE177.out | refine below_set ?_ GE178.out | refine below_set ?_ GE187.out))⟩)
                  ·skip
                   refine box_step ?hg (N := 8) ?hd (cs := #[.int .i64 0, .int .u64 0]) (t := 24) ?hr ?_; (case hd => rfl); (case hg => rfl); (case hr => first | (go_simp; done) | (go_simp; rfl))
                   intro gb188 hg w29 hbox hb
                   have n0_ := AK_ (blk_below (by apply_rules [BK176.out, bN_, bD_, bA_]) hb)
                   have n1_ := AK_ (blk_below (by apply_rules [BK177.out, bN_, bD_, bA_]) hb)
                   have n2_ := AK_ (blk_below (by apply_rules [BK178.out, bN_, bD_, bA_]) hb)
                   have n3_ := AK_ (below_step (by repeat (first | exact HB.out | apply below_alloc | apply pw_below_drewN | apply below_drew1 | refine below_set ?_ GE176.out | refine below_set ?_ GE177.out | refine below_set ?_ GE178.out)) hb)
                   have n4_ := AK_ (hbox)
                   have n5_ := AK_ ((by rw [hg]; exact (below_size (by repeat (first | exact HB.out | apply below_alloc | apply pw_below_drewN | apply below_drew1 | refine below_set ?_ GE176.out | refine below_set ?_ GE177.out | refine below_set ?_ GE178.out))) : w.heap.size ≤ gb188))
                   have n6_ := AK_ ((by rw [hg]; exact (below_size (by repeat (first | exact HB.out | apply below_alloc | apply pw_below_drewN | apply below_drew1 | refine below_set ?_ GE176.out | refine below_set ?_ GE177.out | refine below_set ?_ GE178.out))) : w.heap.size ≤ gb188))
                   have n7_ := AK_ ((by rw [hg]; exact Nat.ne_of_lt (blk_lt (g := gb176) (o := .cells #[.int .i64 a0_0, .int .u64 a0_1] 24 (0, 0)) (by apply_rules [BK176.out, bN_, bD_, bA_])) : gb176 ≠ gb188))
                   have n8_ := AK_ ((by rw [hg]; exact Nat.ne_of_gt (blk_lt (g := gb176) (o := .cells #[.int .i64 a0_0, .int .u64 a0_1] 24 (0, 0)) (by apply_rules [BK176.out, bN_, bD_, bA_])) : gb188 ≠ gb176))
                   have n9_ := AK_ ((by rw [hg]; exact Nat.ne_of_lt (blk_lt (g := gb177) (o := .cells #[.int .i64 a1_0, .int .u64 a1_1] 24 (0, 0)) (by apply_rules [BK177.out, bN_, bD_, bA_])) : gb177 ≠ gb188))
                   have n10_ := AK_ ((by rw [hg]; exact Nat.ne_of_gt (blk_lt (g := gb177) (o := .cells #[.int .i64 a1_0, .int .u64 a1_1] 24 (0, 0)) (by apply_rules [BK177.out, bN_, bD_, bA_])) : gb188 ≠ gb177))
                   have n11_ := AK_ ((by rw [hg]; exact Nat.ne_of_lt (blk_lt (g := gb178) (o := .cells #[.int .i64 a2_0, .int .u64 a2_1] 24 (0, 0)) (by apply_rules [BK178.out, bN_, bD_, bA_])) : gb178 ≠ gb188))
                   have n12_ := AK_ ((by rw [hg]; exact Nat.ne_of_gt (blk_lt (g := gb178) (o := .cells #[.int .i64 a2_0, .int .u64 a2_1] 24 (0, 0)) (by apply_rules [BK178.out, bN_, bD_, bA_])) : gb188 ≠ gb178))
                   clear BK176 BK177 BK178 HB
                   have BK176 := n0_
                   have BK177 := n1_
                   have BK178 := n2_
                   have HB := n3_
                   have BK188 := n4_
                   have GW188 := n5_
                   have GE188 := n6_
                   have NB176_188 := n7_
                   have NB188_176 := n8_
                   have NB177_188 := n9_
                   have NB188_177 := n10_
                   have NB178_188 := n11_
                   have NB188_178 := n12_
                   clear n0_ n1_ n2_ n3_ n4_ n5_ n6_ n7_ n8_ n9_ n10_ n11_ n12_
                   clear hb hbox hg
                   refine hK.out _ _ ⟨(blk_cell BK176.out 0).trans rfl, (blk_cell BK176.out 1).trans rfl, (blk_cell BK177.out 0).trans rfl, (blk_cell BK177.out 1).trans rfl, (blk_cell BK178.out 0).trans rfl, (blk_cell BK178.out 1).trans rfl⟩ (fun hHeld => ?_)
                   clear hK K
                   refine norm_ (a' := ?_) ?_ ?_
                   rotate_left
                   ·show Act.put _ (some 8) _ = _
                    simp only [Act.put, List.setIfInBounds_toArray, List.set_cons_zero, List.set_cons_succ, i64_w, i32_w]
                    rfl
                   exact norm_ (by simp only [putAll, Act.put, List.setIfInBounds_toArray, List.set_cons_zero, List.set_cons_succ] <;> rfl) (hJ2_11 (gb188) _ ⟨hHeld, (by apply_rules [BK176.out, bN_, bD_, bA_]), (by apply_rules [BK177.out, bN_, bD_, bA_]), (by apply_rules [BK178.out, bN_, bD_, bA_]), (by apply_rules [BK188.out, bN_, bD_, bA_]), GW188.out, GE188.out, NB176_188.out, NB188_176.out, NB177_188.out, NB188_177.out, NB178_188.out, NB188_178.out, (by repeat (first | exact HB.out | apply below_alloc | apply pw_below_drewN | apply below_drew1 | refine below_set ?_ GE176.out | refine below_set ?_ GE177.out | refine below_set ?_ GE178.out | refine below_set ?_ GE188.out))⟩)
                ·skip
                 rintro ⟨gb187, gb188⟩ w29 ⟨hS_, h0_, h1_, h2_, h3_, h4_, h5_, h6_, h7_, h8_, h9_, h10_, h11_, h12_, h13_, h14_, h15_, h16_, h17_, h18_, h19_, h20_, h21_, h22_, h23_⟩
                 have n0_ : Aside0 (w29.heap[gb176]? = some (.cells #[.int .i64 a0_0, .int .u64 a0_1] 24 (0, 0))) := ⟨h0_⟩
                 have n1_ : Aside0 (w29.heap[gb177]? = some (.cells #[.int .i64 a1_0, .int .u64 a1_1] 24 (0, 0))) := ⟨h1_⟩
                 have n2_ : Aside0 (w29.heap[gb178]? = some (.cells #[.int .i64 a2_0, .int .u64 a2_1] 24 (0, 0))) := ⟨h2_⟩
                 have n3_ : Aside0 (w29.heap[gb187]? = some (.cells #[.int .i64 0, .int .u64 0] 24 (0, 0))) := ⟨h3_⟩
                 have n4_ : Aside0 (w29.heap[gb188]? = some (.cells #[.int .i64 0, .int .u64 0] 24 (0, 0))) := ⟨h4_⟩
                 have n5_ : Aside0 (w.heap.size ≤ gb187) := ⟨h5_⟩
                 have n6_ : Aside0 (w.heap.size ≤ gb187) := ⟨h6_⟩
                 have n7_ : Aside0 (gb176 ≠ gb187) := ⟨h7_⟩
                 have n8_ : Aside0 (gb187 ≠ gb176) := ⟨h8_⟩
                 have n9_ : Aside0 (gb177 ≠ gb187) := ⟨h9_⟩
                 have n10_ : Aside0 (gb187 ≠ gb177) := ⟨h10_⟩
                 have n11_ : Aside0 (gb178 ≠ gb187) := ⟨h11_⟩
                 have n12_ : Aside0 (gb187 ≠ gb178) := ⟨h12_⟩
                 have n13_ : Aside0 (gb188 ≠ gb187) := ⟨h13_⟩
                 have n14_ : Aside0 (gb187 ≠ gb188) := ⟨h14_⟩
                 have n15_ : Aside0 (w.heap.size ≤ gb188) := ⟨h15_⟩
                 have n16_ : Aside0 (w.heap.size ≤ gb188) := ⟨h16_⟩
                 have n17_ : Aside0 (gb176 ≠ gb188) := ⟨h17_⟩
                 have n18_ : Aside0 (gb188 ≠ gb176) := ⟨h18_⟩
                 have n19_ : Aside0 (gb177 ≠ gb188) := ⟨h19_⟩
                 have n20_ : Aside0 (gb188 ≠ gb177) := ⟨h20_⟩
                 have n21_ : Aside0 (gb178 ≠ gb188) := ⟨h21_⟩
                 have n22_ : Aside0 (gb188 ≠ gb178) := ⟨h22_⟩
                 have n23_ : Aside0 (Below w.heap.size w w29) := ⟨h23_⟩
                 clear BK176 BK177 BK178 HB h0_ h1_ h2_ h3_ h4_ h5_ h6_ h7_ h8_ h9_ h10_ h11_ h12_ h13_ h14_ h15_ h16_ h17_ h18_ h19_ h20_ h21_ h22_ h23_
                 have BK176 := n0_
                 have BK177 := n1_
                 have BK178 := n2_
                 have BK187 := n3_
                 have BK188 := n4_
                 have GW187 := n5_
                 have GE187 := n6_
                 have NB176_187 := n7_
                 have NB187_176 := n8_
                 have NB177_187 := n9_
                 have NB187_177 := n10_
                 have NB178_187 := n11_
                 have NB187_178 := n12_
                 have NB188_187 := n13_
                 have NB187_188 := n14_
                 have GW188 := n15_
                 have GE188 := n16_
                 have NB176_188 := n17_
                 have NB188_176 := n18_
                 have NB177_188 := n19_
                 have NB188_177 := n20_
                 have NB178_188 := n21_
                 have NB188_178 := n22_
                 have HB := n23_
                 clear n0_ n1_ n2_ n3_ n4_ n5_ n6_ n7_ n8_ n9_ n10_ n11_ n12_ n13_ n14_ n15_ n16_ n17_ n18_ n19_ n20_ n21_ n22_ n23_
                 have hHeld : w29.cell? ⟨gb176, 0, none⟩ = some (.int .i64 a0_0) ∧ w29.cell? ⟨gb176, 1, none⟩ = some (.int .u64 a0_1) ∧ w29.cell? ⟨gb177, 0, none⟩ = some (.int .i64 a1_0) ∧ w29.cell? ⟨gb177, 1, none⟩ = some (.int .u64 a1_1) ∧ w29.cell? ⟨gb178, 0, none⟩ = some (.int .i64 a2_0) ∧ w29.cell? ⟨gb178, 1, none⟩ = some (.int .u64 a2_1) := hS_
                 refine norm_ (a' := ?_) ?_ ?_
                 rotate_left
                 ·simp only [putAll, Act.put, List.setIfInBounds_toArray, List.set_cons_zero, List.set_cons_succ]
                  rfl
                 refine one_ (i := 2) (N := some 11) #[true, true, true, true, false, true, true, true, false, false, true, true, false, false] rfl rfl (one_of HT_.out (by kernel_rfl)) (by decide) (fun K hK => ?_)
                 refine goes_ Try.func21 (by kernel_rfl) rfl #[.agg #[.int .i64 a0_0, .int .u64 a0_1], .agg #[.int .i64 a1_0, .int .u64 a1_1]] (by rfl) rfl rfl (by (try simp only [List.map_toArray, List.map_cons, List.map_nil]); first | done | rfl | (simp only [List.length_drop, List.length_take]; rfl)) ?_
                 with_reducible refine (wide_Add.calls a0_0 a0_1 a1_0 a1_1 t179 t180 _ A4.out).mono ?_
                 rintro e w30 ⟨rfl, hb⟩
                 refine ⟨_, rfl, ?_⟩
                 have n0_ := AK_ (blk_below (by apply_rules [BK176.out, bN_, bD_, bA_]) hb)
                 have n1_ := AK_ (blk_below (by apply_rules [BK177.out, bN_, bD_, bA_]) hb)
                 have n2_ := AK_ (blk_below (by apply_rules [BK178.out, bN_, bD_, bA_]) hb)
                 have n3_ := AK_ (blk_below (by apply_rules [BK187.out, bN_, bD_, bA_]) hb)
                 have n4_ := AK_ (blk_below (by apply_rules [BK188.out, bN_, bD_, bA_]) hb)
                 have n5_ := AK_ (below_step (by repeat (first | exact HB.out | apply below_alloc | apply pw_below_drewN | apply below_drew1 | refine below_set ?_ GE176.out | refine below_set ?_ GE177.out | refine below_set ?_ GE178.out | refine below_set ?_ GE187.out | refine below_set ?_ GE188.out)) hb)
                 clear BK176 BK177 BK178 BK187 BK188 HB
                 have BK176 := n0_
                 have BK177 := n1_
                 have BK178 := n2_
                 have BK187 := n3_
                 have BK188 := n4_
                 have HB := n5_
                 clear n0_ n1_ n2_ n3_ n4_ n5_
                 (try clear hb)
                 (try clear hb2)
                 (try clear hk)
                 (try clear hi)
                 refine hK.out _ _ ⟨(blk_cell BK176.out 0).trans rfl, (blk_cell BK176.out 1).trans rfl, (blk_cell BK177.out 0).trans rfl, (blk_cell BK177.out 1).trans rfl, (blk_cell BK178.out 0).trans rfl, (blk_cell BK178.out 1).trans rfl⟩ (fun hHeld => ?_)
                 clear hK K
                 refine norm_ (a' := ?_) ?_ ?_
                 rotate_left
                 ·show Act.put _ (some 11) _ = _
                  simp only [Act.put, List.setIfInBounds_toArray, List.set_cons_zero, List.set_cons_succ, i64_w, i32_w]
                  rfl
                 exact norm_ (by simp only [putAll, Act.put, List.setIfInBounds_toArray, List.set_cons_zero, List.set_cons_succ] <;> rfl) (hJ2_10_11 (gb187, gb188) _ ⟨hHeld, (by apply_rules [BK176.out, bN_, bD_, bA_]), (by apply_rules [BK177.out, bN_, bD_, bA_]), (by apply_rules [BK178.out, bN_, bD_, bA_]), (by apply_rules [BK187.out, bN_, bD_, bA_]), (by apply_rules [BK188.out, bN_, bD_, bA_]), GW187.out, GE187.out, NB176_187.out, NB187_176.out, NB177_187.out, NB187_177.out, NB178_187.out, NB187_178.out, NB188_187.out, NB187_188.out, GW188.out, GE188.out, NB176_188.out, NB188_176.out, NB177_188.out, NB188_177.out, NB178_188.out, NB188_178.out, (by repeat (first | exact HB.out | apply below_alloc | apply pw_below_drewN | apply below_drew1 | refine below_set ?_ GE176.out | refine below_set ?_ GE177.out | refine below_set ?_ GE178.out | refine below_set ?_ GE187.out | refine below_set ?_ GE188.out))⟩)
               ·skip
                rintro gb188 w29 ⟨hS_, h0_, h1_, h2_, h3_, h4_, h5_, h6_, h7_, h8_, h9_, h10_, h11_, h12_⟩
                have n0_ : Aside0 (w29.heap[gb176]? = some (.cells #[.int .i64 a0_0, .int .u64 a0_1] 24 (0, 0))) := ⟨h0_⟩
                have n1_ : Aside0 (w29.heap[gb177]? = some (.cells #[.int .i64 a1_0, .int .u64 a1_1] 24 (0, 0))) := ⟨h1_⟩
                have n2_ : Aside0 (w29.heap[gb178]? = some (.cells #[.int .i64 a2_0, .int .u64 a2_1] 24 (0, 0))) := ⟨h2_⟩
                have n3_ : Aside0 (w29.heap[gb188]? = some (.cells #[.int .i64 0, .int .u64 0] 24 (0, 0))) := ⟨h3_⟩
                have n4_ : Aside0 (w.heap.size ≤ gb188) := ⟨h4_⟩
                have n5_ : Aside0 (w.heap.size ≤ gb188) := ⟨h5_⟩
                have n6_ : Aside0 (gb176 ≠ gb188) := ⟨h6_⟩
                have n7_ : Aside0 (gb188 ≠ gb176) := ⟨h7_⟩
                have n8_ : Aside0 (gb177 ≠ gb188) := ⟨h8_⟩
                have n9_ : Aside0 (gb188 ≠ gb177) := ⟨h9_⟩
                have n10_ : Aside0 (gb178 ≠ gb188) := ⟨h10_⟩
                have n11_ : Aside0 (gb188 ≠ gb178) := ⟨h11_⟩
                have n12_ : Aside0 (Below w.heap.size w w29) := ⟨h12_⟩
                clear BK176 BK177 BK178 HB h0_ h1_ h2_ h3_ h4_ h5_ h6_ h7_ h8_ h9_ h10_ h11_ h12_
                have BK176 := n0_
                have BK177 := n1_
                have BK178 := n2_
                have BK188 := n3_
                have GW188 := n4_
                have GE188 := n5_
                have NB176_188 := n6_
                have NB188_176 := n7_
                have NB177_188 := n8_
                have NB188_177 := n9_
                have NB178_188 := n10_
                have NB188_178 := n11_
                have HB := n12_
                clear n0_ n1_ n2_ n3_ n4_ n5_ n6_ n7_ n8_ n9_ n10_ n11_ n12_
                have hHeld : w29.cell? ⟨gb176, 0, none⟩ = some (.int .i64 a0_0) ∧ w29.cell? ⟨gb176, 1, none⟩ = some (.int .u64 a0_1) ∧ w29.cell? ⟨gb177, 0, none⟩ = some (.int .i64 a1_0) ∧ w29.cell? ⟨gb177, 1, none⟩ = some (.int .u64 a1_1) ∧ w29.cell? ⟨gb178, 0, none⟩ = some (.int .i64 a2_0) ∧ w29.cell? ⟨gb178, 1, none⟩ = some (.int .u64 a2_1) := hS_
                refine norm_ (a' := ?_) ?_ ?_
                rotate_left
                ·simp only [putAll, Act.put, List.setIfInBounds_toArray, List.set_cons_zero, List.set_cons_succ]
                 rfl
                refine two_ (i := 4) (j := 10) (Ni := some 13) (Nj := some 7) #[true, true, true, true, true, true, true, true, false, false, false, true, false, false] #[true, true, true, true, false, true, true, true, false, false, true, true, false, false] rfl rfl rfl rfl (two_of HT_.out (by kernel_rfl)) (by decide) (by decide) (fun K hK => ?_) (fun K hK => ?_)
                ·skip
                 refine goes_ Try.func21 (by kernel_rfl) rfl #[.agg #[.int .i64 t179, .int .u64 t180], .agg #[.int .i64 a2_0, .int .u64 a2_1]] (by rfl) rfl rfl (by (try simp only [List.map_toArray, List.map_cons, List.map_nil]); first | done | rfl | (simp only [List.length_drop, List.length_take]; rfl)) ?_
                 with_reducible refine (wide_Add.calls t179 t180 a2_0 a2_1 t181 t182 _ A5.out).mono ?_
                 rintro e w30 ⟨rfl, hb⟩
                 refine ⟨_, rfl, ?_⟩
                 have n0_ := AK_ (blk_below (by apply_rules [BK176.out, bN_, bD_, bA_]) hb)
                 have n1_ := AK_ (blk_below (by apply_rules [BK177.out, bN_, bD_, bA_]) hb)
                 have n2_ := AK_ (blk_below (by apply_rules [BK178.out, bN_, bD_, bA_]) hb)
                 have n3_ := AK_ (blk_below (by apply_rules [BK188.out, bN_, bD_, bA_]) hb)
                 have n4_ := AK_ (below_step (by repeat (first | exact HB.out | apply below_alloc | apply pw_below_drewN | apply below_drew1 | refine below_set ?_ GE176.out | refine below_set ?_ GE177.out | refine below_set ?_ GE178.out | refine below_set ?_ GE188.out)) hb)
                 clear BK176 BK177 BK178 BK188 HB
                 have BK176 := n0_
                 have BK177 := n1_
                 have BK178 := n2_
                 have BK188 := n3_
                 have HB := n4_
                 clear n0_ n1_ n2_ n3_ n4_
                 (try clear hb)
                 (try clear hb2)
                 (try clear hk)
                 (try clear hi)
                 refine hK.out _ _ ⟨(blk_cell BK176.out 0).trans rfl, (blk_cell BK176.out 1).trans rfl, (blk_cell BK177.out 0).trans rfl, (blk_cell BK177.out 1).trans rfl, (blk_cell BK178.out 0).trans rfl, (blk_cell BK178.out 1).trans rfl⟩ (fun hHeld => ?_)
                 clear hK K
                 refine norm_ (a' := ?_) ?_ ?_
                 rotate_left
                 ·show Act.put _ (some 13) _ = _
                  simp only [Act.put, List.setIfInBounds_toArray, List.set_cons_zero, List.set_cons_succ, i64_w, i32_w]
                  rfl
                 exact norm_ (by simp only [putAll, Act.put, List.setIfInBounds_toArray, List.set_cons_zero, List.set_cons_succ] <;> rfl) (hJ2_4_11 (gb188) _ ⟨hHeld, (by apply_rules [BK176.out, bN_, bD_, bA_]), (by apply_rules [BK177.out, bN_, bD_, bA_]), (by apply_rules [BK178.out, bN_, bD_, bA_]), (by apply_rules [BK188.out, bN_, bD_, bA_]), GW188.out, GE188.out, NB176_188.out, NB188_176.out, NB177_188.out, NB188_177.out, NB178_188.out, NB188_178.out, (by repeat (first | exact HB.out | apply below_alloc | apply pw_below_drewN | apply below_drew1 | refine below_set ?_ GE176.out | refine below_set ?_ GE177.out | refine below_set ?_ GE178.out | refine below_set ?_ GE188.out))⟩)
                ·skip
                 refine box_step ?hg (N := 7) ?hd (cs := #[.int .i64 0, .int .u64 0]) (t := 24) ?hr ?_; (case hd => rfl); (case hg => rfl); (case hr => first | (go_simp; done) | (go_simp; rfl))
                 intro gb187 hg w30 hbox hb
                 have n0_ := AK_ (blk_below (by apply_rules [BK176.out, bN_, bD_, bA_]) hb)
                 have n1_ := AK_ (blk_below (by apply_rules [BK177.out, bN_, bD_, bA_]) hb)
                 have n2_ := AK_ (blk_below (by apply_rules [BK178.out, bN_, bD_, bA_]) hb)
                 have n3_ := AK_ (blk_below (by apply_rules [BK188.out, bN_, bD_, bA_]) hb)
                 have n4_ := AK_ (below_step (by repeat (first | exact HB.out | apply below_alloc | apply pw_below_drewN | apply below_drew1 | refine below_set ?_ GE176.out | refine below_set ?_ GE177.out | refine below_set ?_ GE178.out | refine below_set ?_ GE188.out)) hb)
                 have n5_ := AK_ (hbox)
                 have n6_ := AK_ ((by rw [hg]; exact (below_size (by repeat (first | exact HB.out | apply below_alloc | apply pw_below_drewN | apply below_drew1 | refine below_set ?_ GE176.out | refine below_set ?_ GE177.out | refine below_set ?_ GE178.out | refine below_set ?_ GE188.out))) : w.heap.size ≤ gb187))
                 have n7_ := AK_ ((by rw [hg]; exact (below_size (by repeat (first | exact HB.out | apply below_alloc | apply pw_below_drewN | apply below_drew1 | refine below_set ?_ GE176.out | refine below_set ?_ GE177.out | refine below_set ?_ GE178.out | refine below_set ?_ GE188.out))) : w.heap.size ≤ gb187))
                 have n8_ := AK_ ((by rw [hg]; exact Nat.ne_of_lt (blk_lt (g := gb176) (o := .cells #[.int .i64 a0_0, .int .u64 a0_1] 24 (0, 0)) (by apply_rules [BK176.out, bN_, bD_, bA_])) : gb176 ≠ gb187))
                 have n9_ := AK_ ((by rw [hg]; exact Nat.ne_of_gt (blk_lt (g := gb176) (o := .cells #[.int .i64 a0_0, .int .u64 a0_1] 24 (0, 0)) (by apply_rules [BK176.out, bN_, bD_, bA_])) : gb187 ≠ gb176))
                 have n10_ := AK_ ((by rw [hg]; exact Nat.ne_of_lt (blk_lt (g := gb177) (o := .cells #[.int .i64 a1_0, .int .u64 a1_1] 24 (0, 0)) (by apply_rules [BK177.out, bN_, bD_, bA_])) : gb177 ≠ gb187))
                 have n11_ := AK_ ((by rw [hg]; exact Nat.ne_of_gt (blk_lt (g := gb177) (o := .cells #[.int .i64 a1_0, .int .u64 a1_1] 24 (0, 0)) (by apply_rules [BK177.out, bN_, bD_, bA_])) : gb187 ≠ gb177))
                 have n12_ := AK_ ((by rw [hg]; exact Nat.ne_of_lt (blk_lt (g := gb178) (o := .cells #[.int .i64 a2_0, .int .u64 a2_1] 24 (0, 0)) (by apply_rules [BK178.out, bN_, bD_, bA_])) : gb178 ≠ gb187))
                 have n13_ := AK_ ((by rw [hg]; exact Nat.ne_of_gt (blk_lt (g := gb178) (o := .cells #[.int .i64 a2_0, .int .u64 a2_1] 24 (0, 0)) (by apply_rules [BK178.out, bN_, bD_, bA_])) : gb187 ≠ gb178))
                 have n14_ := AK_ ((by rw [hg]; exact Nat.ne_of_lt (blk_lt (g := gb188) (o := .cells #[.int .i64 0, .int .u64 0] 24 (0, 0)) (by apply_rules [BK188.out, bN_, bD_, bA_])) : gb188 ≠ gb187))
                 have n15_ := AK_ ((by rw [hg]; exact Nat.ne_of_gt (blk_lt (g := gb188) (o := .cells #[.int .i64 0, .int .u64 0] 24 (0, 0)) (by apply_rules [BK188.out, bN_, bD_, bA_])) : gb187 ≠ gb188))
                 clear BK176 BK177 BK178 BK188 HB
                 have BK176 := n0_
                 have BK177 := n1_
                 have BK178 := n2_
                 have BK188 := n3_
                 have HB := n4_
                 have BK187 := n5_
                 have GW187 := n6_
                 have GE187 := n7_
                 have NB176_187 := n8_
                 have NB187_176 := n9_
                 have NB177_187 := n10_
                 have NB187_177 := n11_
                 have NB178_187 := n12_
                 have NB187_178 := n13_
                 have NB188_187 := n14_
                 have NB187_188 := n15_
                 clear n0_ n1_ n2_ n3_ n4_ n5_ n6_ n7_ n8_ n9_ n10_ n11_ n12_ n13_ n14_ n15_
                 clear hb hbox hg
                 refine hK.out _ _ ⟨(blk_cell BK176.out 0).trans rfl, (blk_cell BK176.out 1).trans rfl, (blk_cell BK177.out 0).trans rfl, (blk_cell BK177.out 1).trans rfl, (blk_cell BK178.out 0).trans rfl, (blk_cell BK178.out 1).trans rfl⟩ (fun hHeld => ?_)
                 clear hK K
                 refine norm_ (a' := ?_) ?_ ?_
                 rotate_left
                 ·show Act.put _ (some 7) _ = _
                  simp only [Act.put, List.setIfInBounds_toArray, List.set_cons_zero, List.set_cons_succ, i64_w, i32_w]
                  rfl
                 exact norm_ (by simp only [putAll, Act.put, List.setIfInBounds_toArray, List.set_cons_zero, List.set_cons_succ] <;> rfl) (hJ2_10_11 (gb187, gb188) _ ⟨hHeld, (by apply_rules [BK176.out, bN_, bD_, bA_]), (by apply_rules [BK177.out, bN_, bD_, bA_]), (by apply_rules [BK178.out, bN_, bD_, bA_]), (by apply_rules [BK187.out, bN_, bD_, bA_]), (by apply_rules [BK188.out, bN_, bD_, bA_]), GW187.out, GE187.out, NB176_187.out, NB187_176.out, NB177_187.out, NB187_177.out, NB178_187.out, NB187_178.out, NB188_187.out, NB187_188.out, GW188.out, GE188.out, NB176_188.out, NB188_176.out, NB177_188.out, NB188_177.out, NB178_188.out, NB188_178.out, (by repeat (first | exact HB.out | apply below_alloc | apply pw_below_drewN | apply below_drew1 | refine below_set ?_ GE176.out | refine below_set ?_ GE177.out | refine below_set ?_ GE178.out | refine below_set ?_ GE188.out | refine below_set ?_ GE187.out))⟩)
              ·skip
               rintro gb187 w29 ⟨hS_, h0_, h1_, h2_, h3_, h4_, h5_, h6_, h7_, h8_, h9_, h10_, h11_, h12_⟩
               have n0_ : Aside0 (w29.heap[gb176]? = some (.cells #[.int .i64 a0_0, .int .u64 a0_1] 24 (0, 0))) := ⟨h0_⟩
               have n1_ : Aside0 (w29.heap[gb177]? = some (.cells #[.int .i64 a1_0, .int .u64 a1_1] 24 (0, 0))) := ⟨h1_⟩
               have n2_ : Aside0 (w29.heap[gb178]? = some (.cells #[.int .i64 a2_0, .int .u64 a2_1] 24 (0, 0))) := ⟨h2_⟩
               have n3_ : Aside0 (w29.heap[gb187]? = some (.cells #[.int .i64 0, .int .u64 0] 24 (0, 0))) := ⟨h3_⟩
               have n4_ : Aside0 (w.heap.size ≤ gb187) := ⟨h4_⟩
               have n5_ : Aside0 (w.heap.size ≤ gb187) := ⟨h5_⟩
               have n6_ : Aside0 (gb176 ≠ gb187) := ⟨h6_⟩
               have n7_ : Aside0 (gb187 ≠ gb176) := ⟨h7_⟩
               have n8_ : Aside0 (gb177 ≠ gb187) := ⟨h8_⟩
               have n9_ : Aside0 (gb187 ≠ gb177) := ⟨h9_⟩
               have n10_ : Aside0 (gb178 ≠ gb187) := ⟨h10_⟩
               have n11_ : Aside0 (gb187 ≠ gb178) := ⟨h11_⟩
               have n12_ : Aside0 (Below w.heap.size w w29) := ⟨h12_⟩
               clear BK176 BK177 BK178 HB h0_ h1_ h2_ h3_ h4_ h5_ h6_ h7_ h8_ h9_ h10_ h11_ h12_
               have BK176 := n0_
               have BK177 := n1_
               have BK178 := n2_
               have BK187 := n3_
               have GW187 := n4_
               have GE187 := n5_
               have NB176_187 := n6_
               have NB187_176 := n7_
               have NB177_187 := n8_
               have NB187_177 := n9_
               have NB178_187 := n10_
               have NB187_178 := n11_
               have HB := n12_
               clear n0_ n1_ n2_ n3_ n4_ n5_ n6_ n7_ n8_ n9_ n10_ n11_ n12_
               have hHeld : w29.cell? ⟨gb176, 0, none⟩ = some (.int .i64 a0_0) ∧ w29.cell? ⟨gb176, 1, none⟩ = some (.int .u64 a0_1) ∧ w29.cell? ⟨gb177, 0, none⟩ = some (.int .i64 a1_0) ∧ w29.cell? ⟨gb177, 1, none⟩ = some (.int .u64 a1_1) ∧ w29.cell? ⟨gb178, 0, none⟩ = some (.int .i64 a2_0) ∧ w29.cell? ⟨gb178, 1, none⟩ = some (.int .u64 a2_1) := hS_
               refine norm_ (a' := ?_) ?_ ?_
               rotate_left
               ·simp only [putAll, Act.put, List.setIfInBounds_toArray, List.set_cons_zero, List.set_cons_succ]
                rfl
               refine two_ (i := 4) (j := 11) (Ni := some 13) (Nj := some 8) #[true, true, true, true, true, true, true, true, false, false, true, false, false, false] #[true, true, true, true, false, true, true, true, false, false, true, true, false, false] rfl rfl rfl rfl (two_of HT_.out (by kernel_rfl)) (by decide) (by decide) (fun K hK => ?_) (fun K hK => ?_)
               ·skip
                refine goes_ Try.func21 (by kernel_rfl) rfl #[.agg #[.int .i64 t179, .int .u64 t180], .agg #[.int .i64 a2_0, .int .u64 a2_1]] (by rfl) rfl rfl (by (try simp only [List.map_toArray, List.map_cons, List.map_nil]); first | done | rfl | (simp only [List.length_drop, List.length_take]; rfl)) ?_
                with_reducible refine (wide_Add.calls t179 t180 a2_0 a2_1 t181 t182 _ A5.out).mono ?_
                rintro e w30 ⟨rfl, hb⟩
                refine ⟨_, rfl, ?_⟩
                have n0_ := AK_ (blk_below (by apply_rules [BK176.out, bN_, bD_, bA_]) hb)
                have n1_ := AK_ (blk_below (by apply_rules [BK177.out, bN_, bD_, bA_]) hb)
                have n2_ := AK_ (blk_below (by apply_rules [BK178.out, bN_, bD_, bA_]) hb)
                have n3_ := AK_ (blk_below (by apply_rules [BK187.out, bN_, bD_, bA_]) hb)
                have n4_ := AK_ (below_step (by repeat (first | exact HB.out | apply below_alloc | apply pw_below_drewN | apply below_drew1 | refine below_set ?_ GE176.out | refine below_set ?_ GE177.out | refine below_set ?_ GE178.out | refine below_set ?_ GE187.out)) hb)
                clear BK176 BK177 BK178 BK187 HB
                have BK176 := n0_
                have BK177 := n1_
                have BK178 := n2_
                have BK187 := n3_
                have HB := n4_
                clear n0_ n1_ n2_ n3_ n4_
                (try clear hb)
                (try clear hb2)
                (try clear hk)
                (try clear hi)
                refine hK.out _ _ ⟨(blk_cell BK176.out 0).trans rfl, (blk_cell BK176.out 1).trans rfl, (blk_cell BK177.out 0).trans rfl, (blk_cell BK177.out 1).trans rfl, (blk_cell BK178.out 0).trans rfl, (blk_cell BK178.out 1).trans rfl⟩ (fun hHeld => ?_)
                clear hK K
                refine norm_ (a' := ?_) ?_ ?_
                rotate_left
                ·show Act.put _ (some 13) _ = _
                 simp only [Act.put, List.setIfInBounds_toArray, List.set_cons_zero, List.set_cons_succ, i64_w, i32_w]
                 rfl
                exact norm_ (by simp only [putAll, Act.put, List.setIfInBounds_toArray, List.set_cons_zero, List.set_cons_succ] <;> rfl) (hJ2_4_10 (gb187) _ ⟨hHeld, (by apply_rules [BK176.out, bN_, bD_, bA_]), (by apply_rules [BK177.out, bN_, bD_, bA_]), (by apply_rules [BK178.out, bN_, bD_, bA_]), (by apply_rules [BK187.out, bN_, bD_, bA_]), GW187.out, GE187.out, NB176_187.out, NB187_176.out, NB177_187.out, NB187_177.out, NB178_187.out, NB187_178.out, (by repeat (first | exact HB.out | apply below_alloc | apply pw_below_drewN | apply below_drew1 | refine below_set ?_ GE176.out | refine below_set ?_ GE177.out | refine below_set ?_ GE178.out | refine below_set ?_ GE187.out))⟩)
               ·skip
                refine box_step ?hg (N := 8) ?hd (cs := #[.int .i64 0, .int .u64 0]) (t := 24) ?hr ?_; (case hd => rfl); (case hg => rfl); (case hr => first | (go_simp; done) | (go_simp; rfl))
                intro gb188 hg w30 hbox hb
                have n0_ := AK_ (blk_below (by apply_rules [BK176.out, bN_, bD_, bA_]) hb)
                have n1_ := AK_ (blk_below (by apply_rules [BK177.out, bN_, bD_, bA_]) hb)
                have n2_ := AK_ (blk_below (by apply_rules [BK178.out, bN_, bD_, bA_]) hb)
                have n3_ := AK_ (blk_below (by apply_rules [BK187.out, bN_, bD_, bA_]) hb)
                have n4_ := AK_ (below_step (by repeat (first | exact HB.out | apply below_alloc | apply pw_below_drewN | apply below_drew1 | refine below_set ?_ GE176.out | refine below_set ?_ GE177.out | refine below_set ?_ GE178.out | refine below_set ?_ GE187.out)) hb)
                have n5_ := AK_ (hbox)
                have n6_ := AK_ ((by rw [hg]; exact (below_size (by repeat (first | exact HB.out | apply below_alloc | apply pw_below_drewN | apply below_drew1 | refine below_set ?_ GE176.out | refine below_set ?_ GE177.out | refine below_set ?_ GE178.out | refine below_set ?_ GE187.out))) : w.heap.size ≤ gb188))
                have n7_ := AK_ ((by rw [hg]; exact (below_size (by repeat (first | exact HB.out | apply below_alloc | apply pw_below_drewN | apply below_drew1 | refine below_set ?_ GE176.out | refine below_set ?_ GE177.out | refine below_set ?_ GE178.out | refine below_set ?_ GE187.out))) : w.heap.size ≤ gb188))
                have n8_ := AK_ ((by rw [hg]; exact Nat.ne_of_lt (blk_lt (g := gb176) (o := .cells #[.int .i64 a0_0, .int .u64 a0_1] 24 (0, 0)) (by apply_rules [BK176.out, bN_, bD_, bA_])) : gb176 ≠ gb188))
                have n9_ := AK_ ((by rw [hg]; exact Nat.ne_of_gt (blk_lt (g := gb176) (o := .cells #[.int .i64 a0_0, .int .u64 a0_1] 24 (0, 0)) (by apply_rules [BK176.out, bN_, bD_, bA_])) : gb188 ≠ gb176))
                have n10_ := AK_ ((by rw [hg]; exact Nat.ne_of_lt (blk_lt (g := gb177) (o := .cells #[.int .i64 a1_0, .int .u64 a1_1] 24 (0, 0)) (by apply_rules [BK177.out, bN_, bD_, bA_])) : gb177 ≠ gb188))
                have n11_ := AK_ ((by rw [hg]; exact Nat.ne_of_gt (blk_lt (g := gb177) (o := .cells #[.int .i64 a1_0, .int .u64 a1_1] 24 (0, 0)) (by apply_rules [BK177.out, bN_, bD_, bA_])) : gb188 ≠ gb177))
                have n12_ := AK_ ((by rw [hg]; exact Nat.ne_of_lt (blk_lt (g := gb178) (o := .cells #[.int .i64 a2_0, .int .u64 a2_1] 24 (0, 0)) (by apply_rules [BK178.out, bN_, bD_, bA_])) : gb178 ≠ gb188))
                have n13_ := AK_ ((by rw [hg]; exact Nat.ne_of_gt (blk_lt (g := gb178) (o := .cells #[.int .i64 a2_0, .int .u64 a2_1] 24 (0, 0)) (by apply_rules [BK178.out, bN_, bD_, bA_])) : gb188 ≠ gb178))
                have n14_ := AK_ ((by rw [hg]; exact Nat.ne_of_lt (blk_lt (g := gb187) (o := .cells #[.int .i64 0, .int .u64 0] 24 (0, 0)) (by apply_rules [BK187.out, bN_, bD_, bA_])) : gb187 ≠ gb188))
                have n15_ := AK_ ((by rw [hg]; exact Nat.ne_of_gt (blk_lt (g := gb187) (o := .cells #[.int .i64 0, .int .u64 0] 24 (0, 0)) (by apply_rules [BK187.out, bN_, bD_, bA_])) : gb188 ≠ gb187))
                clear BK176 BK177 BK178 BK187 HB
                have BK176 := n0_
                have BK177 := n1_
                have BK178 := n2_
                have BK187 := n3_
                have HB := n4_
                have BK188 := n5_
                have GW188 := n6_
                have GE188 := n7_
                have NB176_188 := n8_
                have NB188_176 := n9_
                have NB177_188 := n10_
                have NB188_177 := n11_
                have NB178_188 := n12_
                have NB188_178 := n13_
                have NB187_188 := n14_
                have NB188_187 := n15_
                clear n0_ n1_ n2_ n3_ n4_ n5_ n6_ n7_ n8_ n9_ n10_ n11_ n12_ n13_ n14_ n15_
                clear hb hbox hg
                refine hK.out _ _ ⟨(blk_cell BK176.out 0).trans rfl, (blk_cell BK176.out 1).trans rfl, (blk_cell BK177.out 0).trans rfl, (blk_cell BK177.out 1).trans rfl, (blk_cell BK178.out 0).trans rfl, (blk_cell BK178.out 1).trans rfl⟩ (fun hHeld => ?_)
                clear hK K
                refine norm_ (a' := ?_) ?_ ?_
                rotate_left
                ·show Act.put _ (some 8) _ = _
                 simp only [Act.put, List.setIfInBounds_toArray, List.set_cons_zero, List.set_cons_succ, i64_w, i32_w]
                 rfl
                exact norm_ (by simp only [putAll, Act.put, List.setIfInBounds_toArray, List.set_cons_zero, List.set_cons_succ] <;> rfl) (hJ2_10_11 (gb187, gb188) _ ⟨hHeld, (by apply_rules [BK176.out, bN_, bD_, bA_]), (by apply_rules [BK177.out, bN_, bD_, bA_]), (by apply_rules [BK178.out, bN_, bD_, bA_]), (by apply_rules [BK187.out, bN_, bD_, bA_]), (by apply_rules [BK188.out, bN_, bD_, bA_]), GW187.out, GE187.out, NB176_187.out, NB187_176.out, NB177_187.out, NB187_177.out, NB178_187.out, NB187_178.out, NB188_187.out, NB187_188.out, GW188.out, GE188.out, NB176_188.out, NB188_176.out, NB177_188.out, NB188_177.out, NB178_188.out, NB188_178.out, (by repeat (first | exact HB.out | apply below_alloc | apply pw_below_drewN | apply below_drew1 | refine below_set ?_ GE176.out | refine below_set ?_ GE177.out | refine below_set ?_ GE178.out | refine below_set ?_ GE187.out | refine below_set ?_ GE188.out))⟩)
             ·skip
              rintro _ w29 ⟨hS_, h0_, h1_, h2_, h3_⟩
              have n0_ : Aside0 (w29.heap[gb176]? = some (.cells #[.int .i64 a0_0, .int .u64 a0_1] 24 (0, 0))) := ⟨h0_⟩
              have n1_ : Aside0 (w29.heap[gb177]? = some (.cells #[.int .i64 a1_0, .int .u64 a1_1] 24 (0, 0))) := ⟨h1_⟩
              have n2_ : Aside0 (w29.heap[gb178]? = some (.cells #[.int .i64 a2_0, .int .u64 a2_1] 24 (0, 0))) := ⟨h2_⟩
              have n3_ : Aside0 (Below w.heap.size w w29) := ⟨h3_⟩
              clear BK176 BK177 BK178 HB h0_ h1_ h2_ h3_
              have BK176 := n0_
              have BK177 := n1_
              have BK178 := n2_
              have HB := n3_
              clear n0_ n1_ n2_ n3_
              have hHeld : w29.cell? ⟨gb176, 0, none⟩ = some (.int .i64 a0_0) ∧ w29.cell? ⟨gb176, 1, none⟩ = some (.int .u64 a0_1) ∧ w29.cell? ⟨gb177, 0, none⟩ = some (.int .i64 a1_0) ∧ w29.cell? ⟨gb177, 1, none⟩ = some (.int .u64 a1_1) ∧ w29.cell? ⟨gb178, 0, none⟩ = some (.int .i64 a2_0) ∧ w29.cell? ⟨gb178, 1, none⟩ = some (.int .u64 a2_1) := hS_
              refine norm_ (a' := ?_) ?_ ?_
              rotate_left
              ·simp only [putAll, Act.put, List.setIfInBounds_toArray, List.set_cons_zero, List.set_cons_succ]
               rfl
              refine three_ (i := 8) (j := 10) (k := 11) (Ni := some 17) (Nj := some 7) (Nk := some 8) #[true, true, true, true, true, true, true, true, true, false, false, false, false, false] #[true, true, true, true, true, true, true, true, false, false, true, false, false, false] #[true, true, true, true, true, true, true, true, false, false, false, true, false, false] rfl rfl rfl rfl rfl rfl (three_of HT_.out (by kernel_rfl)) (by decide) (by decide) (by decide) (fun K hK => ?_) (fun K hK => ?_) (fun K hK => ?_)
              ·skip
               refine goes_ Try.func21 (by kernel_rfl) rfl #[.agg #[.int .i64 a2_0, .int .u64 a2_1], .agg #[.int .i64 a1_0, .int .u64 a1_1]] (by rfl) rfl rfl (by (try simp only [List.map_toArray, List.map_cons, List.map_nil]); first | done | rfl | (simp only [List.length_drop, List.length_take]; rfl)) ?_
               with_reducible refine (wide_Add.calls a2_0 a2_1 a1_0 a1_1 t183 t184 _ A6.out).mono ?_
               rintro e w30 ⟨rfl, hb⟩
               refine ⟨_, rfl, ?_⟩
               have n0_ := AK_ (blk_below (by apply_rules [BK176.out, bN_, bD_, bA_]) hb)
               have n1_ := AK_ (blk_below (by apply_rules [BK177.out, bN_, bD_, bA_]) hb)
               have n2_ := AK_ (blk_below (by apply_rules [BK178.out, bN_, bD_, bA_]) hb)
               have n3_ := AK_ (below_step (by repeat (first | exact HB.out | apply below_alloc | apply pw_below_drewN | apply below_drew1 | refine below_set ?_ GE176.out | refine below_set ?_ GE177.out | refine below_set ?_ GE178.out)) hb)
               clear BK176 BK177 BK178 HB
               have BK176 := n0_
               have BK177 := n1_
               have BK178 := n2_
               have HB := n3_
               clear n0_ n1_ n2_ n3_
               (try clear hb)
               (try clear hb2)
               (try clear hk)
               (try clear hi)
               refine hK.out _ _ ⟨(blk_cell BK176.out 0).trans rfl, (blk_cell BK176.out 1).trans rfl, (blk_cell BK177.out 0).trans rfl, (blk_cell BK177.out 1).trans rfl, (blk_cell BK178.out 0).trans rfl, (blk_cell BK178.out 1).trans rfl⟩ (fun hHeld => ?_)
               clear hK K
               refine norm_ (a' := ?_) ?_ ?_
               rotate_left
               ·show Act.put _ (some 17) _ = _
                simp only [Act.put, List.setIfInBounds_toArray, List.set_cons_zero, List.set_cons_succ, i64_w, i32_w]
                rfl
               exact norm_ (by simp only [putAll, Act.put, List.setIfInBounds_toArray, List.set_cons_zero, List.set_cons_succ] <;> rfl) (hJ2_4_8 () _ ⟨hHeld, (by apply_rules [BK176.out, bN_, bD_, bA_]), (by apply_rules [BK177.out, bN_, bD_, bA_]), (by apply_rules [BK178.out, bN_, bD_, bA_]), (by repeat (first | exact HB.out | apply below_alloc | apply pw_below_drewN | apply below_drew1 | refine below_set ?_ GE176.out | refine below_set ?_ GE177.out | refine below_set ?_ GE178.out))⟩)
              ·skip
               refine box_step ?hg (N := 7) ?hd (cs := #[.int .i64 0, .int .u64 0]) (t := 24) ?hr ?_; (case hd => rfl); (case hg => rfl); (case hr => first | (go_simp; done) | (go_simp; rfl))
               intro gb187 hg w30 hbox hb
               have n0_ := AK_ (blk_below (by apply_rules [BK176.out, bN_, bD_, bA_]) hb)
               have n1_ := AK_ (blk_below (by apply_rules [BK177.out, bN_, bD_, bA_]) hb)
               have n2_ := AK_ (blk_below (by apply_rules [BK178.out, bN_, bD_, bA_]) hb)
               have n3_ := AK_ (below_step (by repeat (first | exact HB.out | apply below_alloc | apply pw_below_drewN | apply below_drew1 | refine below_set ?_ GE176.out | refine below_set ?_ GE177.out | refine below_set ?_ GE178.out)) hb)
               have n4_ := AK_ (hbox)
               have n5_ := AK_ ((by rw [hg]; exact (below_size (by repeat (first | exact HB.out | apply below_alloc | apply pw_below_drewN | apply below_drew1 | refine below_set ?_ GE176.out | refine below_set ?_ GE177.out | refine below_set ?_ GE178.out))) : w.heap.size ≤ gb187))
               have n6_ := AK_ ((by rw [hg]; exact (below_size (by repeat (first | exact HB.out | apply below_alloc | apply pw_below_drewN | apply below_drew1 | refine below_set ?_ GE176.out | refine below_set ?_ GE177.out | refine below_set ?_ GE178.out))) : w.heap.size ≤ gb187))
               have n7_ := AK_ ((by rw [hg]; exact Nat.ne_of_lt (blk_lt (g := gb176) (o := .cells #[.int .i64 a0_0, .int .u64 a0_1] 24 (0, 0)) (by apply_rules [BK176.out, bN_, bD_, bA_])) : gb176 ≠ gb187))
               have n8_ := AK_ ((by rw [hg]; exact Nat.ne_of_gt (blk_lt (g := gb176) (o := .cells #[.int .i64 a0_0, .int .u64 a0_1] 24 (0, 0)) (by apply_rules [BK176.out, bN_, bD_, bA_])) : gb187 ≠ gb176))
               have n9_ := AK_ ((by rw [hg]; exact Nat.ne_of_lt (blk_lt (g := gb177) (o := .cells #[.int .i64 a1_0, .int .u64 a1_1] 24 (0, 0)) (by apply_rules [BK177.out, bN_, bD_, bA_])) : gb177 ≠ gb187))
               have n10_ := AK_ ((by rw [hg]; exact Nat.ne_of_gt (blk_lt (g := gb177) (o := .cells #[.int .i64 a1_0, .int .u64 a1_1] 24 (0, 0)) (by apply_rules [BK177.out, bN_, bD_, bA_])) : gb187 ≠ gb177))
               have n11_ := AK_ ((by rw [hg]; exact Nat.ne_of_lt (blk_lt (g := gb178) (o := .cells #[.int .i64 a2_0, .int .u64 a2_1] 24 (0, 0)) (by apply_rules [BK178.out, bN_, bD_, bA_])) : gb178 ≠ gb187))
               have n12_ := AK_ ((by rw [hg]; exact Nat.ne_of_gt (blk_lt (g := gb178) (o := .cells #[.int .i64 a2_0, .int .u64 a2_1] 24 (0, 0)) (by apply_rules [BK178.out, bN_, bD_, bA_])) : gb187 ≠ gb178))
               clear BK176 BK177 BK178 HB
               have BK176 := n0_
               have BK177 := n1_
               have BK178 := n2_
               have HB := n3_
               have BK187 := n4_
               have GW187 := n5_
               have GE187 := n6_
               have NB176_187 := n7_
               have NB187_176 := n8_
               have NB177_187 := n9_
               have NB187_177 := n10_
               have NB178_187 := n11_
               have NB187_178 := n12_
               clear n0_ n1_ n2_ n3_ n4_ n5_ n6_ n7_ n8_ n9_ n10_ n11_ n12_
               clear hb hbox hg
               refine hK.out _ _ ⟨(blk_cell BK176.out 0).trans rfl, (blk_cell BK176.out 1).trans rfl, (blk_cell BK177.out 0).trans rfl, (blk_cell BK177.out 1).trans rfl, (blk_cell BK178.out 0).trans rfl, (blk_cell BK178.out 1).trans rfl⟩ (fun hHeld => ?_)
               clear hK K
               refine norm_ (a' := ?_) ?_ ?_
               rotate_left
               ·show Act.put _ (some 7) _ = _
                simp only [Act.put, List.setIfInBounds_toArray, List.set_cons_zero, List.set_cons_succ, i64_w, i32_w]
                rfl
               exact norm_ (by simp only [putAll, Act.put, List.setIfInBounds_toArray, List.set_cons_zero, List.set_cons_succ] <;> rfl) (hJ2_4_10 (gb187) _ ⟨hHeld, (by apply_rules [BK176.out, bN_, bD_, bA_]), (by apply_rules [BK177.out, bN_, bD_, bA_]), (by apply_rules [BK178.out, bN_, bD_, bA_]), (by apply_rules [BK187.out, bN_, bD_, bA_]), GW187.out, GE187.out, NB176_187.out, NB187_176.out, NB177_187.out, NB187_177.out, NB178_187.out, NB187_178.out, (by repeat (first | exact HB.out | apply below_alloc | apply pw_below_drewN | apply below_drew1 | refine below_set ?_ GE176.out | refine below_set ?_ GE177.out | refine below_set ?_ GE178.out | refine below_set ?_ GE187.out))⟩)
              ·skip
               refine box_step ?hg (N := 8) ?hd (cs := #[.int .i64 0, .int .u64 0]) (t := 24) ?hr ?_; (case hd => rfl); (case hg => rfl); (case hr => first | (go_simp; done) | (go_simp; rfl))
               intro gb188 hg w30 hbox hb
               have n0_ := AK_ (blk_below (by apply_rules [BK176.out, bN_, bD_, bA_]) hb)
               have n1_ := AK_ (blk_below (by apply_rules [BK177.out, bN_, bD_, bA_]) hb)
               have n2_ := AK_ (blk_below (by apply_rules [BK178.out, bN_, bD_, bA_]) hb)
               have n3_ := AK_ (below_step (by repeat (first | exact HB.out | apply below_alloc | apply pw_below_drewN | apply below_drew1 | refine below_set ?_ GE176.out | refine below_set ?_ GE177.out | refine below_set ?_ GE178.out)) hb)
               have n4_ := AK_ (hbox)
               have n5_ := AK_ ((by rw [hg]; exact (below_size (by repeat (first | exact HB.out | apply below_alloc | apply pw_below_drewN | apply below_drew1 | refine below_set ?_ GE176.out | refine below_set ?_ GE177.out | refine below_set ?_ GE178.out))) : w.heap.size ≤ gb188))
               have n6_ := AK_ ((by rw [hg]; exact (below_size (by repeat (first | exact HB.out | apply below_alloc | apply pw_below_drewN | apply below_drew1 | refine below_set ?_ GE176.out | refine below_set ?_ GE177.out | refine below_set ?_ GE178.out))) : w.heap.size ≤ gb188))
               have n7_ := AK_ ((by rw [hg]; exact Nat.ne_of_lt (blk_lt (g := gb176) (o := .cells #[.int .i64 a0_0, .int .u64 a0_1] 24 (0, 0)) (by apply_rules [BK176.out, bN_, bD_, bA_])) : gb176 ≠ gb188))
               have n8_ := AK_ ((by rw [hg]; exact Nat.ne_of_gt (blk_lt (g := gb176) (o := .cells #[.int .i64 a0_0, .int .u64 a0_1] 24 (0, 0)) (by apply_rules [BK176.out, bN_, bD_, bA_])) : gb188 ≠ gb176))
               have n9_ := AK_ ((by rw [hg]; exact Nat.ne_of_lt (blk_lt (g := gb177) (o := .cells #[.int .i64 a1_0, .int .u64 a1_1] 24 (0, 0)) (by apply_rules [BK177.out, bN_, bD_, bA_])) : gb177 ≠ gb188))
               have n10_ := AK_ ((by rw [hg]; exact Nat.ne_of_gt (blk_lt (g := gb177) (o := .cells #[.int .i64 a1_0, .int .u64 a1_1] 24 (0, 0)) (by apply_rules [BK177.out, bN_, bD_, bA_])) : gb188 ≠ gb177))
               have n11_ := AK_ ((by rw [hg]; exact Nat.ne_of_lt (blk_lt (g := gb178) (o := .cells #[.int .i64 a2_0, .int .u64 a2_1] 24 (0, 0)) (by apply_rules [BK178.out, bN_, bD_, bA_])) : gb178 ≠ gb188))
               have n12_ := AK_ ((by rw [hg]; exact Nat.ne_of_gt (blk_lt (g := gb178) (o := .cells #[.int .i64 a2_0, .int .u64 a2_1] 24 (0, 0)) (by apply_rules [BK178.out, bN_, bD_, bA_])) : gb188 ≠ gb178))
               clear BK176 BK177 BK178 HB
               have BK176 := n0_
               have BK177 := n1_
               have BK178 := n2_
               have HB := n3_
               have BK188 := n4_
               have GW188 := n5_
               have GE188 := n6_
               have NB176_188 := n7_
               have NB188_176 := n8_
               have NB177_188 := n9_
               have NB188_177 := n10_
               have NB178_188 := n11_
               have NB188_178 := n12_
               clear n0_ n1_ n2_ n3_ n4_ n5_ n6_ n7_ n8_ n9_ n10_ n11_ n12_
               clear hb hbox hg
               refine hK.out _ _ ⟨(blk_cell BK176.out 0).trans rfl, (blk_cell BK176.out 1).trans rfl, (blk_cell BK177.out 0).trans rfl, (blk_cell BK177.out 1).trans rfl, (blk_cell BK178.out 0).trans rfl, (blk_cell BK178.out 1).trans rfl⟩ (fun hHeld => ?_)
               clear hK K
               refine norm_ (a' := ?_) ?_ ?_
               rotate_left
               ·show Act.put _ (some 8) _ = _
                simp only [Act.put, List.setIfInBounds_toArray, List.set_cons_zero, List.set_cons_succ, i64_w, i32_w]
                rfl
               exact norm_ (by simp only [putAll, Act.put, List.setIfInBounds_toArray, List.set_cons_zero, List.set_cons_succ] <;> rfl) (hJ2_4_11 (gb188) _ ⟨hHeld, (by apply_rules [BK176.out, bN_, bD_, bA_]), (by apply_rules [BK177.out, bN_, bD_, bA_]), (by apply_rules [BK178.out, bN_, bD_, bA_]), (by apply_rules [BK188.out, bN_, bD_, bA_]), GW188.out, GE188.out, NB176_188.out, NB188_176.out, NB177_188.out, NB188_177.out, NB178_188.out, NB188_178.out, (by repeat (first | exact HB.out | apply below_alloc | apply pw_below_drewN | apply below_drew1 | refine below_set ?_ GE176.out | refine below_set ?_ GE177.out | refine below_set ?_ GE178.out | refine below_set ?_ GE188.out))⟩)
            ·skip
             rintro ⟨gb187, gb188⟩ w30 ⟨hS_, h0_, h1_, h2_, h3_, h4_, h5_, h6_, h7_, h8_, h9_, h10_, h11_, h12_, h13_, h14_, h15_, h16_, h17_, h18_, h19_, h20_, h21_, h22_, h23_⟩
             have n0_ : Aside0 (w30.heap[gb176]? = some (.cells #[.int .i64 a0_0, .int .u64 a0_1] 24 (0, 0))) := ⟨h0_⟩
             have n1_ : Aside0 (w30.heap[gb177]? = some (.cells #[.int .i64 a1_0, .int .u64 a1_1] 24 (0, 0))) := ⟨h1_⟩
             have n2_ : Aside0 (w30.heap[gb178]? = some (.cells #[.int .i64 a2_0, .int .u64 a2_1] 24 (0, 0))) := ⟨h2_⟩
             have n3_ : Aside0 (w30.heap[gb187]? = some (.cells #[.int .i64 0, .int .u64 0] 24 (0, 0))) := ⟨h3_⟩
             have n4_ : Aside0 (w30.heap[gb188]? = some (.cells #[.int .i64 0, .int .u64 0] 24 (0, 0))) := ⟨h4_⟩
             have n5_ : Aside0 (w.heap.size ≤ gb187) := ⟨h5_⟩
             have n6_ : Aside0 (w.heap.size ≤ gb187) := ⟨h6_⟩
             have n7_ : Aside0 (gb176 ≠ gb187) := ⟨h7_⟩
             have n8_ : Aside0 (gb187 ≠ gb176) := ⟨h8_⟩
             have n9_ : Aside0 (gb177 ≠ gb187) := ⟨h9_⟩
             have n10_ : Aside0 (gb187 ≠ gb177) := ⟨h10_⟩
             have n11_ : Aside0 (gb178 ≠ gb187) := ⟨h11_⟩
             have n12_ : Aside0 (gb187 ≠ gb178) := ⟨h12_⟩
             have n13_ : Aside0 (gb188 ≠ gb187) := ⟨h13_⟩
             have n14_ : Aside0 (gb187 ≠ gb188) := ⟨h14_⟩
             have n15_ : Aside0 (w.heap.size ≤ gb188) := ⟨h15_⟩
             have n16_ : Aside0 (w.heap.size ≤ gb188) := ⟨h16_⟩
             have n17_ : Aside0 (gb176 ≠ gb188) := ⟨h17_⟩
             have n18_ : Aside0 (gb188 ≠ gb176) := ⟨h18_⟩
             have n19_ : Aside0 (gb177 ≠ gb188) := ⟨h19_⟩
             have n20_ : Aside0 (gb188 ≠ gb177) := ⟨h20_⟩
             have n21_ : Aside0 (gb178 ≠ gb188) := ⟨h21_⟩
             have n22_ : Aside0 (gb188 ≠ gb178) := ⟨h22_⟩
             have n23_ : Aside0 (Below w.heap.size w w30) := ⟨h23_⟩
             clear BK176 BK177 BK178 HB h0_ h1_ h2_ h3_ h4_ h5_ h6_ h7_ h8_ h9_ h10_ h11_ h12_ h13_ h14_ h15_ h16_ h17_ h18_ h19_ h20_ h21_ h22_ h23_
             have BK176 := n0_
             have BK177 := n1_
             have BK178 := n2_
             have BK187 := n3_
             have BK188 := n4_
             have GW187 := n5_
             have GE187 := n6_
             have NB176_187 := n7_
             have NB187_176 := n8_
             have NB177_187 := n9_
             have NB187_177 := n10_
             have NB178_187 := n11_
             have NB187_178 := n12_
             have NB188_187 := n13_
             have NB187_188 := n14_
             have GW188 := n15_
             have GE188 := n16_
             have NB176_188 := n17_
             have NB188_176 := n18_
             have NB177_188 := n19_
             have NB188_177 := n20_
             have NB178_188 := n21_
             have NB188_178 := n22_
             have HB := n23_
             clear n0_ n1_ n2_ n3_ n4_ n5_ n6_ n7_ n8_ n9_ n10_ n11_ n12_ n13_ n14_ n15_ n16_ n17_ n18_ n19_ n20_ n21_ n22_ n23_
             have hHeld : w30.cell? ⟨gb176, 0, none⟩ = some (.int .i64 a0_0) ∧ w30.cell? ⟨gb176, 1, none⟩ = some (.int .u64 a0_1) ∧ w30.cell? ⟨gb177, 0, none⟩ = some (.int .i64 a1_0) ∧ w30.cell? ⟨gb177, 1, none⟩ = some (.int .u64 a1_1) ∧ w30.cell? ⟨gb178, 0, none⟩ = some (.int .i64 a2_0) ∧ w30.cell? ⟨gb178, 1, none⟩ = some (.int .u64 a2_1) := hS_
             refine norm_ (a' := ?_) ?_ ?_
             rotate_left
             ·simp only [putAll, Act.put, List.setIfInBounds_toArray, List.set_cons_zero, List.set_cons_succ]
              rfl
             refine one_ (i := 4) (N := some 13) #[true, true, true, true, true, true, true, true, false, false, true, true, false, false] rfl rfl (one_of HT_.out (by kernel_rfl)) (by decide) (fun K hK => ?_)
             refine goes_ Try.func21 (by kernel_rfl) rfl #[.agg #[.int .i64 t179, .int .u64 t180], .agg #[.int .i64 a2_0, .int .u64 a2_1]] (by rfl) rfl rfl (by (try simp only [List.map_toArray, List.map_cons, List.map_nil]); first | done | rfl | (simp only [List.length_drop, List.length_take]; rfl)) ?_
             with_reducible refine (wide_Add.calls t179 t180 a2_0 a2_1 t181 t182 _ A5.out).mono ?_
             rintro e w31 ⟨rfl, hb⟩
             refine ⟨_, rfl, ?_⟩
             have n0_ := AK_ (blk_below (by apply_rules [BK176.out, bN_, bD_, bA_]) hb)
             have n1_ := AK_ (blk_below (by apply_rules [BK177.out, bN_, bD_, bA_]) hb)
             have n2_ := AK_ (blk_below (by apply_rules [BK178.out, bN_, bD_, bA_]) hb)
             have n3_ := AK_ (blk_below (by apply_rules [BK187.out, bN_, bD_, bA_]) hb)
             have n4_ := AK_ (blk_below (by apply_rules [BK188.out, bN_, bD_, bA_]) hb)
             have n5_ := AK_ (below_step (by repeat (first | exact HB.out | apply below_alloc | apply pw_below_drewN | apply below_drew1 | refine below_set ?_ GE176.out | refine below_set ?_ GE177.out | refine below_set ?_ GE178.out | refine below_set ?_ GE187.out | refine below_set ?_ GE188.out)) hb)
             clear BK176 BK177 BK178 BK187 BK188 HB
             have BK176 := n0_
             have BK177 := n1_
             have BK178 := n2_
             have BK187 := n3_
             have BK188 := n4_
             have HB := n5_
             clear n0_ n1_ n2_ n3_ n4_ n5_
             (try clear hb)
             (try clear hb2)
             (try clear hk)
             (try clear hi)
             refine hK.out _ _ ⟨(blk_cell BK176.out 0).trans rfl, (blk_cell BK176.out 1).trans rfl, (blk_cell BK177.out 0).trans rfl, (blk_cell BK177.out 1).trans rfl, (blk_cell BK178.out 0).trans rfl, (blk_cell BK178.out 1).trans rfl⟩ (fun hHeld => ?_)
             clear hK K
             refine norm_ (a' := ?_) ?_ ?_
             rotate_left
             ·show Act.put _ (some 13) _ = _
              simp only [Act.put, List.setIfInBounds_toArray, List.set_cons_zero, List.set_cons_succ, i64_w, i32_w]
              rfl
             exact norm_ (by simp only [putAll, Act.put, List.setIfInBounds_toArray, List.set_cons_zero, List.set_cons_succ] <;> rfl) (hJ2_4_10_11 (gb187, gb188) _ ⟨hHeld, (by apply_rules [BK176.out, bN_, bD_, bA_]), (by apply_rules [BK177.out, bN_, bD_, bA_]), (by apply_rules [BK178.out, bN_, bD_, bA_]), (by apply_rules [BK187.out, bN_, bD_, bA_]), (by apply_rules [BK188.out, bN_, bD_, bA_]), GW187.out, GE187.out, NB176_187.out, NB187_176.out, NB177_187.out, NB187_177.out, NB178_187.out, NB187_178.out, NB188_187.out, NB187_188.out, GW188.out, GE188.out, NB176_188.out, NB188_176.out, NB177_188.out, NB188_177.out, NB178_188.out, NB188_178.out, (by repeat (first | exact HB.out | apply below_alloc | apply pw_below_drewN | apply below_drew1 | refine below_set ?_ GE176.out | refine below_set ?_ GE177.out | refine below_set ?_ GE178.out | refine below_set ?_ GE187.out | refine below_set ?_ GE188.out))⟩)
           ·skip
            rintro gb188 w30 ⟨hS_, h0_, h1_, h2_, h3_, h4_, h5_, h6_, h7_, h8_, h9_, h10_, h11_, h12_⟩
            have n0_ : Aside0 (w30.heap[gb176]? = some (.cells #[.int .i64 a0_0, .int .u64 a0_1] 24 (0, 0))) := ⟨h0_⟩
            have n1_ : Aside0 (w30.heap[gb177]? = some (.cells #[.int .i64 a1_0, .int .u64 a1_1] 24 (0, 0))) := ⟨h1_⟩
            have n2_ : Aside0 (w30.heap[gb178]? = some (.cells #[.int .i64 a2_0, .int .u64 a2_1] 24 (0, 0))) := ⟨h2_⟩
            have n3_ : Aside0 (w30.heap[gb188]? = some (.cells #[.int .i64 0, .int .u64 0] 24 (0, 0))) := ⟨h3_⟩
            have n4_ : Aside0 (w.heap.size ≤ gb188) := ⟨h4_⟩
            have n5_ : Aside0 (w.heap.size ≤ gb188) := ⟨h5_⟩
            have n6_ : Aside0 (gb176 ≠ gb188) := ⟨h6_⟩
            have n7_ : Aside0 (gb188 ≠ gb176) := ⟨h7_⟩
            have n8_ : Aside0 (gb177 ≠ gb188) := ⟨h8_⟩
            have n9_ : Aside0 (gb188 ≠ gb177) := ⟨h9_⟩
            have n10_ : Aside0 (gb178 ≠ gb188) := ⟨h10_⟩
            have n11_ : Aside0 (gb188 ≠ gb178) := ⟨h11_⟩
            have n12_ : Aside0 (Below w.heap.size w w30) := ⟨h12_⟩
            clear BK176 BK177 BK178 HB h0_ h1_ h2_ h3_ h4_ h5_ h6_ h7_ h8_ h9_ h10_ h11_ h12_
            have BK176 := n0_
            have BK177 := n1_
            have BK178 := n2_
            have BK188 := n3_
            have GW188 := n4_
            have GE188 := n5_
            have NB176_188 := n6_
            have NB188_176 := n7_
            have NB177_188 := n8_
            have NB188_177 := n9_
            have NB178_188 := n10_
            have NB188_178 := n11_
            have HB := n12_
            clear n0_ n1_ n2_ n3_ n4_ n5_ n6_ n7_ n8_ n9_ n10_ n11_ n12_
            have hHeld : w30.cell? ⟨gb176, 0, none⟩ = some (.int .i64 a0_0) ∧ w30.cell? ⟨gb176, 1, none⟩ = some (.int .u64 a0_1) ∧ w30.cell? ⟨gb177, 0, none⟩ = some (.int .i64 a1_0) ∧ w30.cell? ⟨gb177, 1, none⟩ = some (.int .u64 a1_1) ∧ w30.cell? ⟨gb178, 0, none⟩ = some (.int .i64 a2_0) ∧ w30.cell? ⟨gb178, 1, none⟩ = some (.int .u64 a2_1) := hS_
            refine norm_ (a' := ?_) ?_ ?_
            rotate_left
            ·simp only [putAll, Act.put, List.setIfInBounds_toArray, List.set_cons_zero, List.set_cons_succ]
             rfl
            refine two_ (i := 8) (j := 10) (Ni := some 17) (Nj := some 7) #[true, true, true, true, true, true, true, true, true, false, false, true, false, false] #[true, true, true, true, true, true, true, true, false, false, true, true, false, false] rfl rfl rfl rfl (two_of HT_.out (by kernel_rfl)) (by decide) (by decide) (fun K hK => ?_) (fun K hK => ?_)
            ·skip
             refine goes_ Try.func21 (by kernel_rfl) rfl #[.agg #[.int .i64 a2_0, .int .u64 a2_1], .agg #[.int .i64 a1_0, .int .u64 a1_1]] (by rfl) rfl rfl (by (try simp only [List.map_toArray, List.map_cons, List.map_nil]); first | done | rfl | (simp only [List.length_drop, List.length_take]; rfl)) ?_
             with_reducible refine (wide_Add.calls a2_0 a2_1 a1_0 a1_1 t183 t184 _ A6.out).mono ?_
             rintro e w31 ⟨rfl, hb⟩
             refine ⟨_, rfl, ?_⟩
             have n0_ := AK_ (blk_below (by apply_rules [BK176.out, bN_, bD_, bA_]) hb)
             have n1_ := AK_ (blk_below (by apply_rules [BK177.out, bN_, bD_, bA_]) hb)
             have n2_ := AK_ (blk_below (by apply_rules [BK178.out, bN_, bD_, bA_]) hb)
             have n3_ := AK_ (blk_below (by apply_rules [BK188.out, bN_, bD_, bA_]) hb)
             have n4_ := AK_ (below_step (by repeat (first | exact HB.out | apply below_alloc | apply pw_below_drewN | apply below_drew1 | refine below_set ?_ GE176.out | refine below_set ?_ GE177.out | refine below_set ?_ GE178.out | refine below_set ?_ GE188.out)) hb)
             clear BK176 BK177 BK178 BK188 HB
             have BK176 := n0_
             have BK177 := n1_
             have BK178 := n2_
             have BK188 := n3_
             have HB := n4_
             clear n0_ n1_ n2_ n3_ n4_
             (try clear hb)
             (try clear hb2)
             (try clear hk)
             (try clear hi)
             refine hK.out _ _ ⟨(blk_cell BK176.out 0).trans rfl, (blk_cell BK176.out 1).trans rfl, (blk_cell BK177.out 0).trans rfl, (blk_cell BK177.out 1).trans rfl, (blk_cell BK178.out 0).trans rfl, (blk_cell BK178.out 1).trans rfl⟩ (fun hHeld => ?_)
             clear hK K
             refine norm_ (a' := ?_) ?_ ?_
             rotate_left
             ·show Act.put _ (some 17) _ = _
              simp only [Act.put, List.setIfInBounds_toArray, List.set_cons_zero, List.set_cons_succ, i64_w, i32_w]
              rfl
             exact norm_ (by simp only [putAll, Act.put, List.setIfInBounds_toArray, List.set_cons_zero, List.set_cons_succ] <;> rfl) (hJ2_4_8_11 (gb188) _ ⟨hHeld, (by apply_rules [BK176.out, bN_, bD_, bA_]), (by apply_rules [BK177.out, bN_, bD_, bA_]), (by apply_rules [BK178.out, bN_, bD_, bA_]), (by apply_rules [BK188.out, bN_, bD_, bA_]), GW188.out, GE188.out, NB176_188.out, NB188_176.out, NB177_188.out, NB188_177.out, NB178_188.out, NB188_178.out, (by repeat (first | exact HB.out | apply below_alloc | apply pw_below_drewN | apply below_drew1 | refine below_set ?_ GE176.out | refine below_set ?_ GE177.out | refine below_set ?_ GE178.out | refine below_set ?_ GE188.out))⟩)
            ·skip
             refine box_step ?hg (N := 7) ?hd (cs := #[.int .i64 0, .int .u64 0]) (t := 24) ?hr ?_; (case hd => rfl); (case hg => rfl); (case hr => first | (go_simp; done) | (go_simp; rfl))
             intro gb187 hg w31 hbox hb
             have n0_ := AK_ (blk_below (by apply_rules [BK176.out, bN_, bD_, bA_]) hb)
             have n1_ := AK_ (blk_below (by apply_rules [BK177.out, bN_, bD_, bA_]) hb)
             have n2_ := AK_ (blk_below (by apply_rules [BK178.out, bN_, bD_, bA_]) hb)
             have n3_ := AK_ (blk_below (by apply_rules [BK188.out, bN_, bD_, bA_]) hb)
             have n4_ := AK_ (below_step (by repeat (first | exact HB.out | apply below_alloc | apply pw_below_drewN | apply below_drew1 | refine below_set ?_ GE176.out | refine below_set ?_ GE177.out | refine below_set ?_ GE178.out | refine below_set ?_ GE188.out)) hb)
             have n5_ := AK_ (hbox)
             have n6_ := AK_ ((by rw [hg]; exact (below_size (by repeat (first | exact HB.out | apply below_alloc | apply pw_below_drewN | apply below_drew1 | refine below_set ?_ GE176.out | refine below_set ?_ GE177.out | refine below_set ?_ GE178.out | refine below_set ?_ GE188.out))) : w.heap.size ≤ gb187))
             have n7_ := AK_ ((by rw [hg]; exact (below_size (by repeat (first | exact HB.out | apply below_alloc | apply pw_below_drewN | apply below_drew1 | refine below_set ?_ GE176.out | refine below_set ?_ GE177.out | refine below_set ?_ GE178.out | refine below_set ?_ GE188.out))) : w.heap.size ≤ gb187))
             have n8_ := AK_ ((by rw [hg]; exact Nat.ne_of_lt (blk_lt (g := gb176) (o := .cells #[.int .i64 a0_0, .int .u64 a0_1] 24 (0, 0)) (by apply_rules [BK176.out, bN_, bD_, bA_])) : gb176 ≠ gb187))
             have n9_ := AK_ ((by rw [hg]; exact Nat.ne_of_gt (blk_lt (g := gb176) (o := .cells #[.int .i64 a0_0, .int .u64 a0_1] 24 (0, 0)) (by apply_rules [BK176.out, bN_, bD_, bA_])) : gb187 ≠ gb176))
             have n10_ := AK_ ((by rw [hg]; exact Nat.ne_of_lt (blk_lt (g := gb177) (o := .cells #[.int .i64 a1_0, .int .u64 a1_1] 24 (0, 0)) (by apply_rules [BK177.out, bN_, bD_, bA_])) : gb177 ≠ gb187))
             have n11_ := AK_ ((by rw [hg]; exact Nat.ne_of_gt (blk_lt (g := gb177) (o := .cells #[.int .i64 a1_0, .int .u64 a1_1] 24 (0, 0)) (by apply_rules [BK177.out, bN_, bD_, bA_])) : gb187 ≠ gb177))
             have n12_ := AK_ ((by rw [hg]; exact Nat.ne_of_lt (blk_lt (g := gb178) (o := .cells #[.int .i64 a2_0, .int .u64 a2_1] 24 (0, 0)) (by apply_rules [BK178.out, bN_, bD_, bA_])) : gb178 ≠ gb187))
             have n13_ := AK_ ((by rw [hg]; exact Nat.ne_of_gt (blk_lt (g := gb178) (o := .cells #[.int .i64 a2_0, .int .u64 a2_1] 24 (0, 0)) (by apply_rules [BK178.out, bN_, bD_, bA_])) : gb187 ≠ gb178))
             have n14_ := AK_ ((by rw [hg]; exact Nat.ne_of_lt (blk_lt (g := gb188) (o := .cells #[.int .i64 0, .int .u64 0] 24 (0, 0)) (by apply_rules [BK188.out, bN_, bD_, bA_])) : gb188 ≠ gb187))
             have n15_ := AK_ ((by rw [hg]; exact Nat.ne_of_gt (blk_lt (g := gb188) (o := .cells #[.int .i64 0, .int .u64 0] 24 (0, 0)) (by apply_rules [BK188.out, bN_, bD_, bA_])) : gb187 ≠ gb188))
             clear BK176 BK177 BK178 BK188 HB
             have BK176 := n0_
             have BK177 := n1_
             have BK178 := n2_
             have BK188 := n3_
             have HB := n4_
             have BK187 := n5_
             have GW187 := n6_
             have GE187 := n7_
             have NB176_187 := n8_
             have NB187_176 := n9_
             have NB177_187 := n10_
             have NB187_177 := n11_
             have NB178_187 := n12_
             have NB187_178 := n13_
             have NB188_187 := n14_
             have NB187_188 := n15_
             clear n0_ n1_ n2_ n3_ n4_ n5_ n6_ n7_ n8_ n9_ n10_ n11_ n12_ n13_ n14_ n15_
             clear hb hbox hg
             refine hK.out _ _ ⟨(blk_cell BK176.out 0).trans rfl, (blk_cell BK176.out 1).trans rfl, (blk_cell BK177.out 0).trans rfl, (blk_cell BK177.out 1).trans rfl, (blk_cell BK178.out 0).trans rfl, (blk_cell BK178.out 1).trans rfl⟩ (fun hHeld => ?_)
             clear hK K
             refine norm_ (a' := ?_) ?_ ?_
             rotate_left
             ·show Act.put _ (some 7) _ = _
              simp only [Act.put, List.setIfInBounds_toArray, List.set_cons_zero, List.set_cons_succ, i64_w, i32_w]
              rfl
             exact norm_ (by simp only [putAll, Act.put, List.setIfInBounds_toArray, List.set_cons_zero, List.set_cons_succ] <;> rfl) (hJ2_4_10_11 (gb187, gb188) _ ⟨hHeld, (by apply_rules [BK176.out, bN_, bD_, bA_]), (by apply_rules [BK177.out, bN_, bD_, bA_]), (by apply_rules [BK178.out, bN_, bD_, bA_]), (by apply_rules [BK187.out, bN_, bD_, bA_]), (by apply_rules [BK188.out, bN_, bD_, bA_]), GW187.out, GE187.out, NB176_187.out, NB187_176.out, NB177_187.out, NB187_177.out, NB178_187.out, NB187_178.out, NB188_187.out, NB187_188.out, GW188.out, GE188.out, NB176_188.out, NB188_176.out, NB177_188.out, NB188_177.out, NB178_188.out, NB188_178.out, (by repeat (first | exact HB.out | apply below_alloc | apply pw_below_drewN | apply below_drew1 | refine below_set ?_ GE176.out | refine below_set ?_ GE177.out | refine below_set ?_ GE178.out | refine below_set ?_ GE188.out | refine below_set ?_ GE187.out))⟩)
          ·skip
           rintro gb187 w30 ⟨hS_, h0_, h1_, h2_, h3_, h4_, h5_, h6_, h7_, h8_, h9_, h10_, h11_, h12_⟩
           have n0_ : Aside0 (w30.heap[gb176]? = some (.cells #[.int .i64 a0_0, .int .u64 a0_1] 24 (0, 0))) := ⟨h0_⟩
           have n1_ : Aside0 (w30.heap[gb177]? = some (.cells #[.int .i64 a1_0, .int .u64 a1_1] 24 (0, 0))) := ⟨h1_⟩
           have n2_ : Aside0 (w30.heap[gb178]? = some (.cells #[.int .i64 a2_0, .int .u64 a2_1] 24 (0, 0))) := ⟨h2_⟩
           have n3_ : Aside0 (w30.heap[gb187]? = some (.cells #[.int .i64 0, .int .u64 0] 24 (0, 0))) := ⟨h3_⟩
           have n4_ : Aside0 (w.heap.size ≤ gb187) := ⟨h4_⟩
           have n5_ : Aside0 (w.heap.size ≤ gb187) := ⟨h5_⟩
           have n6_ : Aside0 (gb176 ≠ gb187) := ⟨h6_⟩
           have n7_ : Aside0 (gb187 ≠ gb176) := ⟨h7_⟩
           have n8_ : Aside0 (gb177 ≠ gb187) := ⟨h8_⟩
           have n9_ : Aside0 (gb187 ≠ gb177) := ⟨h9_⟩
           have n10_ : Aside0 (gb178 ≠ gb187) := ⟨h10_⟩
           have n11_ : Aside0 (gb187 ≠ gb178) := ⟨h11_⟩
           have n12_ : Aside0 (Below w.heap.size w w30) := ⟨h12_⟩
           clear BK176 BK177 BK178 HB h0_ h1_ h2_ h3_ h4_ h5_ h6_ h7_ h8_ h9_ h10_ h11_ h12_
           have BK176 := n0_
           have BK177 := n1_
           have BK178 := n2_
           have BK187 := n3_
           have GW187 := n4_
           have GE187 := n5_
           have NB176_187 := n6_
           have NB187_176 := n7_
           have NB177_187 := n8_
           have NB187_177 := n9_
           have NB178_187 := n10_
           have NB187_178 := n11_
           have HB := n12_
           clear n0_ n1_ n2_ n3_ n4_ n5_ n6_ n7_ n8_ n9_ n10_ n11_ n12_
           have hHeld : w30.cell? ⟨gb176, 0, none⟩ = some (.int .i64 a0_0) ∧ w30.cell? ⟨gb176, 1, none⟩ = some (.int .u64 a0_1) ∧ w30.cell? ⟨gb177, 0, none⟩ = some (.int .i64 a1_0) ∧ w30.cell? ⟨gb177, 1, none⟩ = some (.int .u64 a1_1) ∧ w30.cell? ⟨gb178, 0, none⟩ = some (.int .i64 a2_0) ∧ w30.cell? ⟨gb178, 1, none⟩ = some (.int .u64 a2_1) := hS_
           refine norm_ (a' := ?_) ?_ ?_
           rotate_left
           ·simp only [putAll, Act.put, List.setIfInBounds_toArray, List.set_cons_zero, List.set_cons_succ]
            rfl
           refine two_ (i := 8) (j := 11) (Ni := some 17) (Nj := some 8) #[true, true, true, true, true, true, true, true, true, false, true, false, false, false] #[true, true, true, true, true, true, true, true, false, false, true, true, false, false] rfl rfl rfl rfl (two_of HT_.out (by kernel_rfl)) (by decide) (by decide) (fun K hK => ?_) (fun K hK => ?_)
           ·skip
            refine goes_ Try.func21 (by kernel_rfl) rfl #[.agg #[.int .i64 a2_0, .int .u64 a2_1], .agg #[.int .i64 a1_0, .int .u64 a1_1]] (by rfl) rfl rfl (by (try simp only [List.map_toArray, List.map_cons, List.map_nil]); first | done | rfl | (simp only [List.length_drop, List.length_take]; rfl)) ?_
            with_reducible refine (wide_Add.calls a2_0 a2_1 a1_0 a1_1 t183 t184 _ A6.out).mono ?_
            rintro e w31 ⟨rfl, hb⟩
            refine ⟨_, rfl, ?_⟩
            have n0_ := AK_ (blk_below (by apply_rules [BK176.out, bN_, bD_, bA_]) hb)
            have n1_ := AK_ (blk_below (by apply_rules [BK177.out, bN_, bD_, bA_]) hb)
            have n2_ := AK_ (blk_below (by apply_rules [BK178.out, bN_, bD_, bA_]) hb)
            have n3_ := AK_ (blk_below (by apply_rules [BK187.out, bN_, bD_, bA_]) hb)
            have n4_ := AK_ (below_step (by repeat (first | exact HB.out | apply below_alloc | apply pw_below_drewN | apply below_drew1 | refine below_set ?_ GE176.out | refine below_set ?_ GE177.out | refine below_set ?_ GE178.out | refine below_set ?_ GE187.out)) hb)
            clear BK176 BK177 BK178 BK187 HB
            have BK176 := n0_
            have BK177 := n1_
            have BK178 := n2_
            have BK187 := n3_
            have HB := n4_
            clear n0_ n1_ n2_ n3_ n4_
            (try clear hb)
            (try clear hb2)
            (try clear hk)
            (try clear hi)
            refine hK.out _ _ ⟨(blk_cell BK176.out 0).trans rfl, (blk_cell BK176.out 1).trans rfl, (blk_cell BK177.out 0).trans rfl, (blk_cell BK177.out 1).trans rfl, (blk_cell BK178.out 0).trans rfl, (blk_cell BK178.out 1).trans rfl⟩ (fun hHeld => ?_)
            clear hK K
            refine norm_ (a' := ?_) ?_ ?_
            rotate_left
            ·show Act.put _ (some 17) _ = _
             simp only [Act.put, List.setIfInBounds_toArray, List.set_cons_zero, List.set_cons_succ, i64_w, i32_w]
             rfl
            exact norm_ (by simp only [putAll, Act.put, List.setIfInBounds_toArray, List.set_cons_zero, List.set_cons_succ] <;> rfl) (hJ2_4_8_10 (gb187) _ ⟨hHeld, (by apply_rules [BK176.out, bN_, bD_, bA_]), (by apply_rules [BK177.out, bN_, bD_, bA_]), (by apply_rules [BK178.out, bN_, bD_, bA_]), (by apply_rules [BK187.out, bN_, bD_, bA_]), GW187.out, GE187.out, NB176_187.out, NB187_176.out, NB177_187.out, NB187_177.out, NB178_187.out, NB187_178.out, (by repeat (first | exact HB.out | apply below_alloc | apply pw_below_drewN | apply below_drew1 | refine below_set ?_ GE176.out | refine below_set ?_ GE177.out | refine below_set ?_ GE178.out | refine below_set ?_ GE187.out))⟩)
           ·skip
            refine box_step ?hg (N := 8) ?hd (cs := #[.int .i64 0, .int .u64 0]) (t := 24) ?hr ?_; (case hd => rfl); (case hg => rfl); (case hr => first | (go_simp; done) | (go_simp; rfl))
            intro gb188 hg w31 hbox hb
            have n0_ := AK_ (blk_below (by apply_rules [BK176.out, bN_, bD_, bA_]) hb)
            have n1_ := AK_ (blk_below (by apply_rules [BK177.out, bN_, bD_, bA_]) hb)
            have n2_ := AK_ (blk_below (by apply_rules [BK178.out, bN_, bD_, bA_]) hb)
            have n3_ := AK_ (blk_below (by apply_rules [BK187.out, bN_, bD_, bA_]) hb)
            have n4_ := AK_ (below_step (by repeat (first | exact HB.out | apply below_alloc | apply pw_below_drewN | apply below_drew1 | refine below_set ?_ GE176.out | refine below_set ?_ GE177.out | refine below_set ?_ GE178.out | refine below_set ?_ GE187.out)) hb)
            have n5_ := AK_ (hbox)
            have n6_ := AK_ ((by rw [hg]; exact (below_size (by repeat (first | exact HB.out | apply below_alloc | apply pw_below_drewN | apply below_drew1 | refine below_set ?_ GE176.out | refine below_set ?_ GE177.out | refine below_set ?_ GE178.out | refine below_set ?_ GE187.out))) : w.heap.size ≤ gb188))
            have n7_ := AK_ ((by rw [hg]; exact (below_size (by repeat (first | exact HB.out | apply below_alloc | apply pw_below_drewN | apply below_drew1 | refine below_set ?_ GE176.out | refine below_set ?_ GE177.out | refine below_set ?_ GE178.out | refine below_set ?_ GE187.out))) : w.heap.size ≤ gb188))
            have n8_ := AK_ ((by rw [hg]; exact Nat.ne_of_lt (blk_lt (g := gb176) (o := .cells #[.int .i64 a0_0, .int .u64 a0_1] 24 (0, 0)) (by apply_rules [BK176.out, bN_, bD_, bA_])) : gb176 ≠ gb188))
            have n9_ := AK_ ((by rw [hg]; exact Nat.ne_of_gt (blk_lt (g := gb176) (o := .cells #[.int .i64 a0_0, .int .u64 a0_1] 24 (0, 0)) (by apply_rules [BK176.out, bN_, bD_, bA_])) : gb188 ≠ gb176))
            have n10_ := AK_ ((by rw [hg]; exact Nat.ne_of_lt (blk_lt (g := gb177) (o := .cells #[.int .i64 a1_0, .int .u64 a1_1] 24 (0, 0)) (by apply_rules [BK177.out, bN_, bD_, bA_])) : gb177 ≠ gb188))
            have n11_ := AK_ ((by rw [hg]; exact Nat.ne_of_gt (blk_lt (g := gb177) (o := .cells #[.int .i64 a1_0, .int .u64 a1_1] 24 (0, 0)) (by apply_rules [BK177.out, bN_, bD_, bA_])) : gb188 ≠ gb177))
            have n12_ := AK_ ((by rw [hg]; exact Nat.ne_of_lt (blk_lt (g := gb178) (o := .cells #[.int .i64 a2_0, .int .u64 a2_1] 24 (0, 0)) (by apply_rules [BK178.out, bN_, bD_, bA_])) : gb178 ≠ gb188))
            have n13_ := AK_ ((by rw [hg]; exact Nat.ne_of_gt (blk_lt (g := gb178) (o := .cells #[.int .i64 a2_0, .int .u64 a2_1] 24 (0, 0)) (by apply_rules [BK178.out, bN_, bD_, bA_])) : gb188 ≠ gb178))
            have n14_ := AK_ ((by rw [hg]; exact Nat.ne_of_lt (blk_lt (g := gb187) (o := .cells #[.int .i64 0, .int .u64 0] 24 (0, 0)) (by apply_rules [BK187.out, bN_, bD_, bA_])) : gb187 ≠ gb188))
            have n15_ := AK_ ((by rw [hg]; exact Nat.ne_of_gt (blk_lt (g := gb187) (o := .cells #[.int .i64 0, .int .u64 0] 24 (0, 0)) (by apply_rules [BK187.out, bN_, bD_, bA_])) : gb188 ≠ gb187))
            clear BK176 BK177 BK178 BK187 HB
            have BK176 := n0_
            have BK177 := n1_
            have BK178 := n2_
            have BK187 := n3_
            have HB := n4_
            have BK188 := n5_
            have GW188 := n6_
            have GE188 := n7_
            have NB176_188 := n8_
            have NB188_176 := n9_
            have NB177_188 := n10_
            have NB188_177 := n11_
            have NB178_188 := n12_
            have NB188_178 := n13_
            have NB187_188 := n14_
            have NB188_187 := n15_
            clear n0_ n1_ n2_ n3_ n4_ n5_ n6_ n7_ n8_ n9_ n10_ n11_ n12_ n13_ n14_ n15_
            clear hb hbox hg
            refine hK.out _ _ ⟨(blk_cell BK176.out 0).trans rfl, (blk_cell BK176.out 1).trans rfl, (blk_cell BK177.out 0).trans rfl, (blk_cell BK177.out 1).trans rfl, (blk_cell BK178.out 0).trans rfl, (blk_cell BK178.out 1).trans rfl⟩ (fun hHeld => ?_)
            clear hK K
            refine norm_ (a' := ?_) ?_ ?_
            rotate_left
            ·show Act.put _ (some 8) _ = _
             simp only [Act.put, List.setIfInBounds_toArray, List.set_cons_zero, List.set_cons_succ, i64_w, i32_w]
             rfl
            exact norm_ (by simp only [putAll, Act.put, List.setIfInBounds_toArray, List.set_cons_zero, List.set_cons_succ] <;> rfl) (hJ2_4_10_11 (gb187, gb188) _ ⟨hHeld, (by apply_rules [BK176.out, bN_, bD_, bA_]), (by apply_rules [BK177.out, bN_, bD_, bA_]), (by apply_rules [BK178.out, bN_, bD_, bA_]), (by apply_rules [BK187.out, bN_, bD_, bA_]), (by apply_rules [BK188.out, bN_, bD_, bA_]), GW187.out, GE187.out, NB176_187.out, NB187_176.out, NB177_187.out, NB187_177.out, NB178_187.out, NB187_178.out, NB188_187.out, NB187_188.out, GW188.out, GE188.out, NB176_188.out, NB188_176.out, NB177_188.out, NB188_177.out, NB178_188.out, NB188_178.out, (by repeat (first | exact HB.out | apply below_alloc | apply pw_below_drewN | apply below_drew1 | refine below_set ?_ GE176.out | refine below_set ?_ GE177.out | refine below_set ?_ GE178.out | refine below_set ?_ GE187.out | refine below_set ?_ GE188.out))⟩)
         ·skip
          rintro _ w30 ⟨hS_, h0_, h1_, h2_, h3_⟩
          have n0_ : Aside0 (w30.heap[gb176]? = some (.cells #[.int .i64 a0_0, .int .u64 a0_1] 24 (0, 0))) := ⟨h0_⟩
          have n1_ : Aside0 (w30.heap[gb177]? = some (.cells #[.int .i64 a1_0, .int .u64 a1_1] 24 (0, 0))) := ⟨h1_⟩
          have n2_ : Aside0 (w30.heap[gb178]? = some (.cells #[.int .i64 a2_0, .int .u64 a2_1] 24 (0, 0))) := ⟨h2_⟩
          have n3_ : Aside0 (Below w.heap.size w w30) := ⟨h3_⟩
          clear BK176 BK177 BK178 HB h0_ h1_ h2_ h3_
          have BK176 := n0_
          have BK177 := n1_
          have BK178 := n2_
          have HB := n3_
          clear n0_ n1_ n2_ n3_
          have hHeld : w30.cell? ⟨gb176, 0, none⟩ = some (.int .i64 a0_0) ∧ w30.cell? ⟨gb176, 1, none⟩ = some (.int .u64 a0_1) ∧ w30.cell? ⟨gb177, 0, none⟩ = some (.int .i64 a1_0) ∧ w30.cell? ⟨gb177, 1, none⟩ = some (.int .u64 a1_1) ∧ w30.cell? ⟨gb178, 0, none⟩ = some (.int .i64 a2_0) ∧ w30.cell? ⟨gb178, 1, none⟩ = some (.int .u64 a2_1) := hS_
          refine norm_ (a' := ?_) ?_ ?_
          rotate_left
          ·simp only [putAll, Act.put, List.setIfInBounds_toArray, List.set_cons_zero, List.set_cons_succ]
           rfl
          refine three_ (i := 9) (j := 10) (k := 11) (Ni := some 18) (Nj := some 7) (Nk := some 8) #[true, true, true, true, true, true, true, true, true, true, false, false, false, false] #[true, true, true, true, true, true, true, true, true, false, true, false, false, false] #[true, true, true, true, true, true, true, true, true, false, false, true, false, false] rfl rfl rfl rfl rfl rfl (three_of HT_.out (by kernel_rfl)) (by decide) (by decide) (by decide) (fun K hK => ?_) (fun K hK => ?_) (fun K hK => ?_)
          ·skip
           refine goes_ Try.func21 (by kernel_rfl) rfl #[.agg #[.int .i64 a0_0, .int .u64 a0_1], .agg #[.int .i64 t183, .int .u64 t184]] (by rfl) rfl rfl (by (try simp only [List.map_toArray, List.map_cons, List.map_nil]); first | done | rfl | (simp only [List.length_drop, List.length_take]; rfl)) ?_
           with_reducible refine (wide_Add.calls a0_0 a0_1 t183 t184 t185 t186 _ A7.out).mono ?_
           rintro e w31 ⟨rfl, hb⟩
           refine ⟨_, rfl, ?_⟩
           have n0_ := AK_ (blk_below (by apply_rules [BK176.out, bN_, bD_, bA_]) hb)
           have n1_ := AK_ (blk_below (by apply_rules [BK177.out, bN_, bD_, bA_]) hb)
           have n2_ := AK_ (blk_below (by apply_rules [BK178.out, bN_, bD_, bA_]) hb)
           have n3_ := AK_ (below_step (by repeat (first | exact HB.out | apply below_alloc | apply pw_below_drewN | apply below_drew1 | refine below_set ?_ GE176.out | refine below_set ?_ GE177.out | refine below_set ?_ GE178.out)) hb)
           clear BK176 BK177 BK178 HB
           have BK176 := n0_
           have BK177 := n1_
           have BK178 := n2_
           have HB := n3_
           clear n0_ n1_ n2_ n3_
           (try clear hb)
           (try clear hb2)
           (try clear hk)
           (try clear hi)
           refine hK.out _ _ ⟨(blk_cell BK176.out 0).trans rfl, (blk_cell BK176.out 1).trans rfl, (blk_cell BK177.out 0).trans rfl, (blk_cell BK177.out 1).trans rfl, (blk_cell BK178.out 0).trans rfl, (blk_cell BK178.out 1).trans rfl⟩ (fun hHeld => ?_)
           clear hK K
           refine norm_ (a' := ?_) ?_ ?_
           rotate_left
           ·show Act.put _ (some 18) _ = _
            simp only [Act.put, List.setIfInBounds_toArray, List.set_cons_zero, List.set_cons_succ, i64_w, i32_w]
            rfl
           exact norm_ (by simp only [putAll, Act.put, List.setIfInBounds_toArray, List.set_cons_zero, List.set_cons_succ] <;> rfl) (hJ2_4_8_9 () _ ⟨hHeld, (by apply_rules [BK176.out, bN_, bD_, bA_]), (by apply_rules [BK177.out, bN_, bD_, bA_]), (by apply_rules [BK178.out, bN_, bD_, bA_]), (by repeat (first | exact HB.out | apply below_alloc | apply pw_below_drewN | apply below_drew1 | refine below_set ?_ GE176.out | refine below_set ?_ GE177.out | refine below_set ?_ GE178.out))⟩)
          ·skip
           refine box_step ?hg (N := 7) ?hd (cs := #[.int .i64 0, .int .u64 0]) (t := 24) ?hr ?_; (case hd => rfl); (case hg => rfl); (case hr => first | (go_simp; done) | (go_simp; rfl))
           intro gb187 hg w31 hbox hb
           have n0_ := AK_ (blk_below (by apply_rules [BK176.out, bN_, bD_, bA_]) hb)
           have n1_ := AK_ (blk_below (by apply_rules [BK177.out, bN_, bD_, bA_]) hb)
           have n2_ := AK_ (blk_below (by apply_rules [BK178.out, bN_, bD_, bA_]) hb)
           have n3_ := AK_ (below_step (by repeat (first | exact HB.out | apply below_alloc | apply pw_below_drewN | apply below_drew1 | refine below_set ?_ GE176.out | refine below_set ?_ GE177.out | refine below_set ?_ GE178.out)) hb)
           have n4_ := AK_ (hbox)
           have n5_ := AK_ ((by rw [hg]; exact (below_size (by repeat (first | exact HB.out | apply below_alloc | apply pw_below_drewN | apply below_drew1 | refine below_set ?_ GE176.out | refine below_set ?_ GE177.out | refine below_set ?_ GE178.out))) : w.heap.size ≤ gb187))
           have n6_ := AK_ ((by rw [hg]; exact (below_size (by repeat (first | exact HB.out | apply below_alloc | apply pw_below_drewN | apply below_drew1 | refine below_set ?_ GE176.out | refine below_set ?_ GE177.out | refine below_set ?_ GE178.out))) : w.heap.size ≤ gb187))
           have n7_ := AK_ ((by rw [hg]; exact Nat.ne_of_lt (blk_lt (g := gb176) (o := .cells #[.int .i64 a0_0, .int .u64 a0_1] 24 (0, 0)) (by apply_rules [BK176.out, bN_, bD_, bA_])) : gb176 ≠ gb187))
           have n8_ := AK_ ((by rw [hg]; exact Nat.ne_of_gt (blk_lt (g := gb176) (o := .cells #[.int .i64 a0_0, .int .u64 a0_1] 24 (0, 0)) (by apply_rules [BK176.out, bN_, bD_, bA_])) : gb187 ≠ gb176))
           have n9_ := AK_ ((by rw [hg]; exact Nat.ne_of_lt (blk_lt (g := gb177) (o := .cells #[.int .i64 a1_0, .int .u64 a1_1] 24 (0, 0)) (by apply_rules [BK177.out, bN_, bD_, bA_])) : gb177 ≠ gb187))
           have n10_ := AK_ ((by rw [hg]; exact Nat.ne_of_gt (blk_lt (g := gb177) (o := .cells #[.int .i64 a1_0, .int .u64 a1_1] 24 (0, 0)) (by apply_rules [BK177.out, bN_, bD_, bA_])) : gb187 ≠ gb177))
           have n11_ := AK_ ((by rw [hg]; exact Nat.ne_of_lt (blk_lt (g := gb178) (o := .cells #[.int .i64 a2_0, .int .u64 a2_1] 24 (0, 0)) (by apply_rules [BK178.out, bN_, bD_, bA_])) : gb178 ≠ gb187))
           have n12_ := AK_ ((by rw [hg]; exact Nat.ne_of_gt (blk_lt (g := gb178) (o := .cells #[.int .i64 a2_0, .int .u64 a2_1] 24 (0, 0)) (by apply_rules [BK178.out, bN_, bD_, bA_])) : gb187 ≠ gb178))
           clear BK176 BK177 BK178 HB
           have BK176 := n0_
           have BK177 := n1_
           have BK178 := n2_
           have HB := n3_
           have BK187 := n4_
           have GW187 := n5_
           have GE187 := n6_
           have NB176_187 := n7_
           have NB187_176 := n8_
           have NB177_187 := n9_
           have NB187_177 := n10_
           have NB178_187 := n11_
           have NB187_178 := n12_
           clear n0_ n1_ n2_ n3_ n4_ n5_ n6_ n7_ n8_ n9_ n10_ n11_ n12_
           clear hb hbox hg
           refine hK.out _ _ ⟨(blk_cell BK176.out 0).trans rfl, (blk_cell BK176.out 1).trans rfl, (blk_cell BK177.out 0).trans rfl, (blk_cell BK177.out 1).trans rfl, (blk_cell BK178.out 0).trans rfl, (blk_cell BK178.out 1).trans rfl⟩ (fun hHeld => ?_)
           clear hK K
           refine norm_ (a' := ?_) ?_ ?_
           rotate_left
           ·show Act.put _ (some 7) _ = _
            simp only [Act.put, List.setIfInBounds_toArray, List.set_cons_zero, List.set_cons_succ, i64_w, i32_w]
            rfl
           exact norm_ (by simp only [putAll, Act.put, List.setIfInBounds_toArray, List.set_cons_zero, List.set_cons_succ] <;> rfl) (hJ2_4_8_10 (gb187) _ ⟨hHeld, (by apply_rules [BK176.out, bN_, bD_, bA_]), (by apply_rules [BK177.out, bN_, bD_, bA_]), (by apply_rules [BK178.out, bN_, bD_, bA_]), (by apply_rules [BK187.out, bN_, bD_, bA_]), GW187.out, GE187.out, NB176_187.out, NB187_176.out, NB177_187.out, NB187_177.out, NB178_187.out, NB187_178.out, (by repeat (first | exact HB.out | apply below_alloc | apply pw_below_drewN | apply below_drew1 | refine below_set ?_ GE176.out | refine below_set ?_ GE177.out | refine below_set ?_ GE178.out | refine below_set ?_ GE187.out))⟩)
          ·skip
           refine box_step ?hg (N := 8) ?hd (cs := #[.int .i64 0, .int .u64 0]) (t := 24) ?hr ?_; (case hd => rfl); (case hg => rfl); (case hr => first | (go_simp; done) | (go_simp; rfl))
           intro gb188 hg w31 hbox hb
           have n0_ := AK_ (blk_below (by apply_rules [BK176.out, bN_, bD_, bA_]) hb)
           have n1_ := AK_ (blk_below (by apply_rules [BK177.out, bN_, bD_, bA_]) hb)
           have n2_ := AK_ (blk_below (by apply_rules [BK178.out, bN_, bD_, bA_]) hb)
           have n3_ := AK_ (below_step (by repeat (first | exact HB.out | apply below_alloc | apply pw_below_drewN | apply below_drew1 | refine below_set ?_ GE176.out | refine below_set ?_ GE177.out | refine below_set ?_ GE178.out)) hb)
           have n4_ := AK_ (hbox)
           have n5_ := AK_ ((by rw [hg]; exact (below_size (by repeat (first | exact HB.out | apply below_alloc | apply pw_below_drewN | apply below_drew1 | refine below_set ?_ GE176.out | refine below_set ?_ GE177.out | refine below_set ?_ GE178.out))) : w.heap.size ≤ gb188))
           have n6_ := AK_ ((by rw [hg]; exact (below_size (by repeat (first | exact HB.out | apply below_alloc | apply pw_below_drewN | apply below_drew1 | refine below_set ?_ GE176.out | refine below_set ?_ GE177.out | refine below_set ?_ GE178.out))) : w.heap.size ≤ gb188))
           have n7_ := AK_ ((by rw [hg]; exact Nat.ne_of_lt (blk_lt (g := gb176) (o := .cells #[.int .i64 a0_0, .int .u64 a0_1] 24 (0, 0)) (by apply_rules [BK176.out, bN_, bD_, bA_])) : gb176 ≠ gb188))
           have n8_ := AK_ ((by rw [hg]; exact Nat.ne_of_gt (blk_lt (g := gb176) (o := .cells #[.int .i64 a0_0, .int .u64 a0_1] 24 (0, 0)) (by apply_rules [BK176.out, bN_, bD_, bA_])) : gb188 ≠ gb176))
           have n9_ := AK_ ((by rw [hg]; exact Nat.ne_of_lt (blk_lt (g := gb177) (o := .cells #[.int .i64 a1_0, .int .u64 a1_1] 24 (0, 0)) (by apply_rules [BK177.out, bN_, bD_, bA_])) : gb177 ≠ gb188))
           have n10_ := AK_ ((by rw [hg]; exact Nat.ne_of_gt (blk_lt (g := gb177) (o := .cells #[.int .i64 a1_0, .int .u64 a1_1] 24 (0, 0)) (by apply_rules [BK177.out, bN_, bD_, bA_])) : gb188 ≠ gb177))
           have n11_ := AK_ ((by rw [hg]; exact Nat.ne_of_lt (blk_lt (g := gb178) (o := .cells #[.int .i64 a2_0, .int .u64 a2_1] 24 (0, 0)) (by apply_rules [BK178.out, bN_, bD_, bA_])) : gb178 ≠ gb188))
           have n12_ := AK_ ((by rw [hg]; exact Nat.ne_of_gt (blk_lt (g := gb178) (o := .cells #[.int .i64 a2_0, .int .u64 a2_1] 24 (0, 0)) (by apply_rules [BK178.out, bN_, bD_, bA_])) : gb188 ≠ gb178))
           clear BK176 BK177 BK178 HB
           have BK176 := n0_
           have BK177 := n1_
           have BK178 := n2_
           have HB := n3_
           have BK188 := n4_
           have GW188 := n5_
           have GE188 := n6_
           have NB176_188 := n7_
           have NB188_176 := n8_
           have NB177_188 := n9_
           have NB188_177 := n10_
           have NB178_188 := n11_
           have NB188_178 := n12_
           clear n0_ n1_ n2_ n3_ n4_ n5_ n6_ n7_ n8_ n9_ n10_ n11_ n12_
           clear hb hbox hg
           refine hK.out _ _ ⟨(blk_cell BK176.out 0).trans rfl, (blk_cell BK176.out 1).trans rfl, (blk_cell BK177.out 0).trans rfl, (blk_cell BK177.out 1).trans rfl, (blk_cell BK178.out 0).trans rfl, (blk_cell BK178.out 1).trans rfl⟩ (fun hHeld => ?_)
           clear hK K
           refine norm_ (a' := ?_) ?_ ?_
           rotate_left
           ·show Act.put _ (some 8) _ = _
            simp only [Act.put, List.setIfInBounds_toArray, List.set_cons_zero, List.set_cons_succ, i64_w, i32_w]
            rfl
           exact norm_ (by simp only [putAll, Act.put, List.setIfInBounds_toArray, List.set_cons_zero, List.set_cons_succ] <;> rfl) (hJ2_4_8_11 (gb188) _ ⟨hHeld, (by apply_rules [BK176.out, bN_, bD_, bA_]), (by apply_rules [BK177.out, bN_, bD_, bA_]), (by apply_rules [BK178.out, bN_, bD_, bA_]), (by apply_rules [BK188.out, bN_, bD_, bA_]), GW188.out, GE188.out, NB176_188.out, NB188_176.out, NB177_188.out, NB188_177.out, NB178_188.out, NB188_178.out, (by repeat (first | exact HB.out | apply below_alloc | apply pw_below_drewN | apply below_drew1 | refine below_set ?_ GE176.out | refine below_set ?_ GE177.out | refine below_set ?_ GE178.out | refine below_set ?_ GE188.out))⟩)
        ·skip
         rintro ⟨gb187, gb188⟩ w31 ⟨hS_, h0_, h1_, h2_, h3_, h4_, h5_, h6_, h7_, h8_, h9_, h10_, h11_, h12_, h13_, h14_, h15_, h16_, h17_, h18_, h19_, h20_, h21_, h22_, h23_⟩
         have n0_ : Aside0 (w31.heap[gb176]? = some (.cells #[.int .i64 a0_0, .int .u64 a0_1] 24 (0, 0))) := ⟨h0_⟩
         have n1_ : Aside0 (w31.heap[gb177]? = some (.cells #[.int .i64 a1_0, .int .u64 a1_1] 24 (0, 0))) := ⟨h1_⟩
         have n2_ : Aside0 (w31.heap[gb178]? = some (.cells #[.int .i64 a2_0, .int .u64 a2_1] 24 (0, 0))) := ⟨h2_⟩
         have n3_ : Aside0 (w31.heap[gb187]? = some (.cells #[.int .i64 0, .int .u64 0] 24 (0, 0))) := ⟨h3_⟩
         have n4_ : Aside0 (w31.heap[gb188]? = some (.cells #[.int .i64 0, .int .u64 0] 24 (0, 0))) := ⟨h4_⟩
         have n5_ : Aside0 (w.heap.size ≤ gb187) := ⟨h5_⟩
         have n6_ : Aside0 (w.heap.size ≤ gb187) := ⟨h6_⟩
         have n7_ : Aside0 (gb176 ≠ gb187) := ⟨h7_⟩
         have n8_ : Aside0 (gb187 ≠ gb176) := ⟨h8_⟩
         have n9_ : Aside0 (gb177 ≠ gb187) := ⟨h9_⟩
         have n10_ : Aside0 (gb187 ≠ gb177) := ⟨h10_⟩
         have n11_ : Aside0 (gb178 ≠ gb187) := ⟨h11_⟩
         have n12_ : Aside0 (gb187 ≠ gb178) := ⟨h12_⟩
         have n13_ : Aside0 (gb188 ≠ gb187) := ⟨h13_⟩
         have n14_ : Aside0 (gb187 ≠ gb188) := ⟨h14_⟩
         have n15_ : Aside0 (w.heap.size ≤ gb188) := ⟨h15_⟩
         have n16_ : Aside0 (w.heap.size ≤ gb188) := ⟨h16_⟩
         have n17_ : Aside0 (gb176 ≠ gb188) := ⟨h17_⟩
         have n18_ : Aside0 (gb188 ≠ gb176) := ⟨h18_⟩
         have n19_ : Aside0 (gb177 ≠ gb188) := ⟨h19_⟩
         have n20_ : Aside0 (gb188 ≠ gb177) := ⟨h20_⟩
         have n21_ : Aside0 (gb178 ≠ gb188) := ⟨h21_⟩
         have n22_ : Aside0 (gb188 ≠ gb178) := ⟨h22_⟩
         have n23_ : Aside0 (Below w.heap.size w w31) := ⟨h23_⟩
         clear BK176 BK177 BK178 HB h0_ h1_ h2_ h3_ h4_ h5_ h6_ h7_ h8_ h9_ h10_ h11_ h12_ h13_ h14_ h15_ h16_ h17_ h18_ h19_ h20_ h21_ h22_ h23_
         have BK176 := n0_
         have BK177 := n1_
         have BK178 := n2_
         have BK187 := n3_
         have BK188 := n4_
         have GW187 := n5_
         have GE187 := n6_
         have NB176_187 := n7_
         have NB187_176 := n8_
         have NB177_187 := n9_
         have NB187_177 := n10_
         have NB178_187 := n11_
         have NB187_178 := n12_
         have NB188_187 := n13_
         have NB187_188 := n14_
         have GW188 := n15_
         have GE188 := n16_
         have NB176_188 := n17_
         have NB188_176 := n18_
         have NB177_188 := n19_
         have NB188_177 := n20_
         have NB178_188 := n21_
         have NB188_178 := n22_
         have HB := n23_
         clear n0_ n1_ n2_ n3_ n4_ n5_ n6_ n7_ n8_ n9_ n10_ n11_ n12_ n13_ n14_ n15_ n16_ n17_ n18_ n19_ n20_ n21_ n22_ n23_
         have hHeld : w31.cell? ⟨gb176, 0, none⟩ = some (.int .i64 a0_0) ∧ w31.cell? ⟨gb176, 1, none⟩ = some (.int .u64 a0_1) ∧ w31.cell? ⟨gb177, 0, none⟩ = some (.int .i64 a1_0) ∧ w31.cell? ⟨gb177, 1, none⟩ = some (.int .u64 a1_1) ∧ w31.cell? ⟨gb178, 0, none⟩ = some (.int .i64 a2_0) ∧ w31.cell? ⟨gb178, 1, none⟩ = some (.int .u64 a2_1) := hS_
         refine norm_ (a' := ?_) ?_ ?_
         rotate_left
         ·simp only [putAll, Act.put, List.setIfInBounds_toArray, List.set_cons_zero, List.set_cons_succ]
          rfl
         refine one_ (i := 8) (N := some 17) #[true, true, true, true, true, true, true, true, true, false, true, true, false, false] rfl rfl (one_of HT_.out (by kernel_rfl)) (by decide) (fun K hK => ?_)
         refine goes_ Try.func21 (by kernel_rfl) rfl #[.agg #[.int .i64 a2_0, .int .u64 a2_1], .agg #[.int .i64 a1_0, .int .u64 a1_1]] (by rfl) rfl rfl (by (try simp only [List.map_toArray, List.map_cons, List.map_nil]); first | done | rfl | (simp only [List.length_drop, List.length_take]; rfl)) ?_
         with_reducible refine (wide_Add.calls a2_0 a2_1 a1_0 a1_1 t183 t184 _ A6.out).mono ?_
         rintro e w32 ⟨rfl, hb⟩
         refine ⟨_, rfl, ?_⟩
         have n0_ := AK_ (blk_below (by apply_rules [BK176.out, bN_, bD_, bA_]) hb)
         have n1_ := AK_ (blk_below (by apply_rules [BK177.out, bN_, bD_, bA_]) hb)
         have n2_ := AK_ (blk_below (by apply_rules [BK178.out, bN_, bD_, bA_]) hb)
         have n3_ := AK_ (blk_below (by apply_rules [BK187.out, bN_, bD_, bA_]) hb)
         have n4_ := AK_ (blk_below (by apply_rules [BK188.out, bN_, bD_, bA_]) hb)
         have n5_ := AK_ (below_step (by repeat (first | exact HB.out | apply below_alloc | apply pw_below_drewN | apply below_drew1 | refine below_set ?_ GE176.out | refine below_set ?_ GE177.out | refine below_set ?_ GE178.out | refine below_set ?_ GE187.out | refine below_set ?_ GE188.out)) hb)
         clear BK176 BK177 BK178 BK187 BK188 HB
         have BK176 := n0_
         have BK177 := n1_
         have BK178 := n2_
         have BK187 := n3_
         have BK188 := n4_
         have HB := n5_
         clear n0_ n1_ n2_ n3_ n4_ n5_
         (try clear hb)
         (try clear hb2)
         (try clear hk)
         (try clear hi)
         refine hK.out _ _ ⟨(blk_cell BK176.out 0).trans rfl, (blk_cell BK176.out 1).trans rfl, (blk_cell BK177.out 0).trans rfl, (blk_cell BK177.out 1).trans rfl, (blk_cell BK178.out 0).trans rfl, (blk_cell BK178.out 1).trans rfl⟩ (fun hHeld => ?_)
         clear hK K
         refine norm_ (a' := ?_) ?_ ?_
         rotate_left
         ·show Act.put _ (some 17) _ = _
          simp only [Act.put, List.setIfInBounds_toArray, List.set_cons_zero, List.set_cons_succ, i64_w, i32_w]
          rfl
         exact norm_ (by simp only [putAll, Act.put, List.setIfInBounds_toArray, List.set_cons_zero, List.set_cons_succ] <;> rfl) (hJ2_4_8_10_11 (gb187, gb188) _ ⟨hHeld, (by apply_rules [BK176.out, bN_, bD_, bA_]), (by apply_rules [BK177.out, bN_, bD_, bA_]), (by apply_rules [BK178.out, bN_, bD_, bA_]), (by apply_rules [BK187.out, bN_, bD_, bA_]), (by apply_rules [BK188.out, bN_, bD_, bA_]), GW187.out, GE187.out, NB176_187.out, NB187_176.out, NB177_187.out, NB187_177.out, NB178_187.out, NB187_178.out, NB188_187.out, NB187_188.out, GW188.out, GE188.out, NB176_188.out, NB188_176.out, NB177_188.out, NB188_177.out, NB178_188.out, NB188_178.out, (by repeat (first | exact HB.out | apply below_alloc | apply pw_below_drewN | apply below_drew1 | refine below_set ?_ GE176.out | refine below_set ?_ GE177.out | refine below_set ?_ GE178.out | refine below_set ?_ GE187.out | refine below_set ?_ GE188.out))⟩)
       ·skip
        rintro gb188 w31 ⟨hS_, h0_, h1_, h2_, h3_, h4_, h5_, h6_, h7_, h8_, h9_, h10_, h11_, h12_⟩
        have n0_ : Aside0 (w31.heap[gb176]? = some (.cells #[.int .i64 a0_0, .int .u64 a0_1] 24 (0, 0))) := ⟨h0_⟩
        have n1_ : Aside0 (w31.heap[gb177]? = some (.cells #[.int .i64 a1_0, .int .u64 a1_1] 24 (0, 0))) := ⟨h1_⟩
        have n2_ : Aside0 (w31.heap[gb178]? = some (.cells #[.int .i64 a2_0, .int .u64 a2_1] 24 (0, 0))) := ⟨h2_⟩
        have n3_ : Aside0 (w31.heap[gb188]? = some (.cells #[.int .i64 0, .int .u64 0] 24 (0, 0))) := ⟨h3_⟩
        have n4_ : Aside0 (w.heap.size ≤ gb188) := ⟨h4_⟩
        have n5_ : Aside0 (w.heap.size ≤ gb188) := ⟨h5_⟩
        have n6_ : Aside0 (gb176 ≠ gb188) := ⟨h6_⟩
        have n7_ : Aside0 (gb188 ≠ gb176) := ⟨h7_⟩
        have n8_ : Aside0 (gb177 ≠ gb188) := ⟨h8_⟩
        have n9_ : Aside0 (gb188 ≠ gb177) := ⟨h9_⟩
        have n10_ : Aside0 (gb178 ≠ gb188) := ⟨h10_⟩
        have n11_ : Aside0 (gb188 ≠ gb178) := ⟨h11_⟩
        have n12_ : Aside0 (Below w.heap.size w w31) := ⟨h12_⟩
        clear BK176 BK177 BK178 HB h0_ h1_ h2_ h3_ h4_ h5_ h6_ h7_ h8_ h9_ h10_ h11_ h12_
        have BK176 := n0_
        have BK177 := n1_
        have BK178 := n2_
        have BK188 := n3_
        have GW188 := n4_
        have GE188 := n5_
        have NB176_188 := n6_
        have NB188_176 := n7_
        have NB177_188 := n8_
        have NB188_177 := n9_
        have NB178_188 := n10_
        have NB188_178 := n11_
        have HB := n12_
        clear n0_ n1_ n2_ n3_ n4_ n5_ n6_ n7_ n8_ n9_ n10_ n11_ n12_
        have hHeld : w31.cell? ⟨gb176, 0, none⟩ = some (.int .i64 a0_0) ∧ w31.cell? ⟨gb176, 1, none⟩ = some (.int .u64 a0_1) ∧ w31.cell? ⟨gb177, 0, none⟩ = some (.int .i64 a1_0) ∧ w31.cell? ⟨gb177, 1, none⟩ = some (.int .u64 a1_1) ∧ w31.cell? ⟨gb178, 0, none⟩ = some (.int .i64 a2_0) ∧ w31.cell? ⟨gb178, 1, none⟩ = some (.int .u64 a2_1) := hS_
        refine norm_ (a' := ?_) ?_ ?_
        rotate_left
        ·simp only [putAll, Act.put, List.setIfInBounds_toArray, List.set_cons_zero, List.set_cons_succ]
         rfl
        refine two_ (i := 9) (j := 10) (Ni := some 18) (Nj := some 7) #[true, true, true, true, true, true, true, true, true, true, false, true, false, false] #[true, true, true, true, true, true, true, true, true, false, true, true, false, false] rfl rfl rfl rfl (two_of HT_.out (by kernel_rfl)) (by decide) (by decide) (fun K hK => ?_) (fun K hK => ?_)
        ·skip
         refine goes_ Try.func21 (by kernel_rfl) rfl #[.agg #[.int .i64 a0_0, .int .u64 a0_1], .agg #[.int .i64 t183, .int .u64 t184]] (by rfl) rfl rfl (by (try simp only [List.map_toArray, List.map_cons, List.map_nil]); first | done | rfl | (simp only [List.length_drop, List.length_take]; rfl)) ?_
         with_reducible refine (wide_Add.calls a0_0 a0_1 t183 t184 t185 t186 _ A7.out).mono ?_
         rintro e w32 ⟨rfl, hb⟩
         refine ⟨_, rfl, ?_⟩
         have n0_ := AK_ (blk_below (by apply_rules [BK176.out, bN_, bD_, bA_]) hb)
         have n1_ := AK_ (blk_below (by apply_rules [BK177.out, bN_, bD_, bA_]) hb)
         have n2_ := AK_ (blk_below (by apply_rules [BK178.out, bN_, bD_, bA_]) hb)
         have n3_ := AK_ (blk_below (by apply_rules [BK188.out, bN_, bD_, bA_]) hb)
         have n4_ := AK_ (below_step (by repeat (first | exact HB.out | apply below_alloc | apply pw_below_drewN | apply below_drew1 | refine below_set ?_ GE176.out | refine below_set ?_ GE177.out | refine below_set ?_ GE178.out | refine below_set ?_ GE188.out)) hb)
         clear BK176 BK177 BK178 BK188 HB
         have BK176 := n0_
         have BK177 := n1_
         have BK178 := n2_
         have BK188 := n3_
         have HB := n4_
         clear n0_ n1_ n2_ n3_ n4_
         (try clear hb)
         (try clear hb2)
         (try clear hk)
         (try clear hi)
         refine hK.out _ _ ⟨(blk_cell BK176.out 0).trans rfl, (blk_cell BK176.out 1).trans rfl, (blk_cell BK177.out 0).trans rfl, (blk_cell BK177.out 1).trans rfl, (blk_cell BK178.out 0).trans rfl, (blk_cell BK178.out 1).trans rfl⟩ (fun hHeld => ?_)
         clear hK K
         refine norm_ (a' := ?_) ?_ ?_
         rotate_left
         ·show Act.put _ (some 18) _ = _
          simp only [Act.put, List.setIfInBounds_toArray, List.set_cons_zero, List.set_cons_succ, i64_w, i32_w]
          rfl
         exact norm_ (by simp only [putAll, Act.put, List.setIfInBounds_toArray, List.set_cons_zero, List.set_cons_succ] <;> rfl) (hJ2_4_8_9_11 (gb188) _ ⟨hHeld, (by apply_rules [BK176.out, bN_, bD_, bA_]), (by apply_rules [BK177.out, bN_, bD_, bA_]), (by apply_rules [BK178.out, bN_, bD_, bA_]), (by apply_rules [BK188.out, bN_, bD_, bA_]), GW188.out, GE188.out, NB176_188.out, NB188_176.out, NB177_188.out, NB188_177.out, NB178_188.out, NB188_178.out, (by repeat (first | exact HB.out | apply below_alloc | apply pw_below_drewN | apply below_drew1 | refine below_set ?_ GE176.out | refine below_set ?_ GE177.out | refine below_set ?_ GE178.out | refine below_set ?_ GE188.out))⟩)
        ·skip
         refine box_step ?hg (N := 7) ?hd (cs := #[.int .i64 0, .int .u64 0]) (t := 24) ?hr ?_; (case hd => rfl); (case hg => rfl); (case hr => first | (go_simp; done) | (go_simp; rfl))
         intro gb187 hg w32 hbox hb
         have n0_ := AK_ (blk_below (by apply_rules [BK176.out, bN_, bD_, bA_]) hb)
         have n1_ := AK_ (blk_below (by apply_rules [BK177.out, bN_, bD_, bA_]) hb)
         have n2_ := AK_ (blk_below (by apply_rules [BK178.out, bN_, bD_, bA_]) hb)
         have n3_ := AK_ (blk_below (by apply_rules [BK188.out, bN_, bD_, bA_]) hb)
         have n4_ := AK_ (below_step (by repeat (first | exact HB.out | apply below_alloc | apply pw_below_drewN | apply below_drew1 | refine below_set ?_ GE176.out | refine below_set ?_ GE177.out | refine below_set ?_ GE178.out | refine below_set ?_ GE188.out)) hb)
         have n5_ := AK_ (hbox)
         have n6_ := AK_ ((by rw [hg]; exact (below_size (by repeat (first | exact HB.out | apply below_alloc | apply pw_below_drewN | apply below_drew1 | refine below_set ?_ GE176.out | refine below_set ?_ GE177.out | refine below_set ?_ GE178.out | refine below_set ?_ GE188.out))) : w.heap.size ≤ gb187))
         have n7_ := AK_ ((by rw [hg]; exact (below_size (by repeat (first | exact HB.out | apply below_alloc | apply pw_below_drewN | apply below_drew1 | refine below_set ?_ GE176.out | refine below_set ?_ GE177.out | refine below_set ?_ GE178.out | refine below_set ?_ GE188.out))) : w.heap.size ≤ gb187))
         have n8_ := AK_ ((by rw [hg]; exact Nat.ne_of_lt (blk_lt (g := gb176) (o := .cells #[.int .i64 a0_0, .int .u64 a0_1] 24 (0, 0)) (by apply_rules [BK176.out, bN_, bD_, bA_])) : gb176 ≠ gb187))
         have n9_ := AK_ ((by rw [hg]; exact Nat.ne_of_gt (blk_lt (g := gb176) (o := .cells #[.int .i64 a0_0, .int .u64 a0_1] 24 (0, 0)) (by apply_rules [BK176.out, bN_, bD_, bA_])) : gb187 ≠ gb176))
         have n10_ := AK_ ((by rw [hg]; exact Nat.ne_of_lt (blk_lt (g := gb177) (o := .cells #[.int .i64 a1_0, .int .u64 a1_1] 24 (0, 0)) (by apply_rules [BK177.out, bN_, bD_, bA_])) : gb177 ≠ gb187))
         have n11_ := AK_ ((by rw [hg]; exact Nat.ne_of_gt (blk_lt (g := gb177) (o := .cells #[.int .i64 a1_0, .int .u64 a1_1] 24 (0, 0)) (by apply_rules [BK177.out, bN_, bD_, bA_])) : gb187 ≠ gb177))
         have n12_ := AK_ ((by rw [hg]; exact Nat.ne_of_lt (blk_lt (g := gb178) (o := .cells #[.int .i64 a2_0, .int .u64 a2_1] 24 (0, 0)) (by apply_rules [BK178.out, bN_, bD_, bA_])) : gb178 ≠ gb187))
         have n13_ := AK_ ((by rw [hg]; exact Nat.ne_of_gt (blk_lt (g := gb178) (o := .cells #[.int .i64 a2_0, .int .u64 a2_1] 24 (0, 0)) (by apply_rules [BK178.out, bN_, bD_, bA_])) : gb187 ≠ gb178))
         have n14_ := AK_ ((by rw [hg]; exact Nat.ne_of_lt (blk_lt (g := gb188) (o := .cells #[.int .i64 0, .int .u64 0] 24 (0, 0)) (by apply_rules [BK188.out, bN_, bD_, bA_])) : gb188 ≠ gb187))
         have n15_ := AK_ ((by rw [hg]; exact Nat.ne_of_gt (blk_lt (g := gb188) (o := .cells #[.int .i64 0, .int .u64 0] 24 (0, 0)) (by apply_rules [BK188.out, bN_, bD_, bA_])) : gb187 ≠ gb188))
         clear BK176 BK177 BK178 BK188 HB
         have BK176 := n0_
         have BK177 := n1_
         have BK178 := n2_
         have BK188 := n3_
         have HB := n4_
         have BK187 := n5_
         have GW187 := n6_
         have GE187 := n7_
         have NB176_187 := n8_
         have NB187_176 := n9_
         have NB177_187 := n10_
         have NB187_177 := n11_
         have NB178_187 := n12_
         have NB187_178 := n13_
         have NB188_187 := n14_
         have NB187_188 := n15_
         clear n0_ n1_ n2_ n3_ n4_ n5_ n6_ n7_ n8_ n9_ n10_ n11_ n12_ n13_ n14_ n15_
         clear hb hbox hg
         refine hK.out _ _ ⟨(blk_cell BK176.out 0).trans rfl, (blk_cell BK176.out 1).trans rfl, (blk_cell BK177.out 0).trans rfl, (blk_cell BK177.out 1).trans rfl, (blk_cell BK178.out 0).trans rfl, (blk_cell BK178.out 1).trans rfl⟩ (fun hHeld => ?_)
         clear hK K
         refine norm_ (a' := ?_) ?_ ?_
         rotate_left
         ·show Act.put _ (some 7) _ = _
          simp only [Act.put, List.setIfInBounds_toArray, List.set_cons_zero, List.set_cons_succ, i64_w, i32_w]
          rfl
         exact norm_ (by simp only [putAll, Act.put, List.setIfInBounds_toArray, List.set_cons_zero, List.set_cons_succ] <;> rfl) (hJ2_4_8_10_11 (gb187, gb188) _ ⟨hHeld, (by apply_rules [BK176.out, bN_, bD_, bA_]), (by apply_rules [BK177.out, bN_, bD_, bA_]), (by apply_rules [BK178.out, bN_, bD_, bA_]), (by apply_rules [BK187.out, bN_, bD_, bA_]), (by apply_rules [BK188.out, bN_, bD_, bA_]), GW187.out, GE187.out, NB176_187.out, NB187_176.out, NB177_187.out, NB187_177.out, NB178_187.out, NB187_178.out, NB188_187.out, NB187_188.out, GW188.out, GE188.out, NB176_188.out, NB188_176.out, NB177_188.out, NB188_177.out, NB178_188.out, NB188_178.out, (by repeat (first | exact HB.out | apply below_alloc | apply pw_below_drewN | apply below_drew1 | refine below_set ?_ GE176.out | refine below_set ?_ GE177.out | refine below_set ?_ GE178.out | refine below_set ?_ GE188.out | refine below_set ?_ GE187.out))⟩)
      ·skip
       rintro gb187 w31 ⟨hS_, h0_, h1_, h2_, h3_, h4_, h5_, h6_, h7_, h8_, h9_, h10_, h11_, h12_⟩
       have n0_ : Aside0 (w31.heap[gb176]? = some (.cells #[.int .i64 a0_0, .int .u64 a0_1] 24 (0, 0))) := ⟨h0_⟩
       have n1_ : Aside0 (w31.heap[gb177]? = some (.cells #[.int .i64 a1_0, .int .u64 a1_1] 24 (0, 0))) := ⟨h1_⟩
       have n2_ : Aside0 (w31.heap[gb178]? = some (.cells #[.int .i64 a2_0, .int .u64 a2_1] 24 (0, 0))) := ⟨h2_⟩
       have n3_ : Aside0 (w31.heap[gb187]? = some (.cells #[.int .i64 0, .int .u64 0] 24 (0, 0))) := ⟨h3_⟩
       have n4_ : Aside0 (w.heap.size ≤ gb187) := ⟨h4_⟩
       have n5_ : Aside0 (w.heap.size ≤ gb187) := ⟨h5_⟩
       have n6_ : Aside0 (gb176 ≠ gb187) := ⟨h6_⟩
       have n7_ : Aside0 (gb187 ≠ gb176) := ⟨h7_⟩
       have n8_ : Aside0 (gb177 ≠ gb187) := ⟨h8_⟩
       have n9_ : Aside0 (gb187 ≠ gb177) := ⟨h9_⟩
       have n10_ : Aside0 (gb178 ≠ gb187) := ⟨h10_⟩
       have n11_ : Aside0 (gb187 ≠ gb178) := ⟨h11_⟩
       have n12_ : Aside0 (Below w.heap.size w w31) := ⟨h12_⟩
       clear BK176 BK177 BK178 HB h0_ h1_ h2_ h3_ h4_ h5_ h6_ h7_ h8_ h9_ h10_ h11_ h12_
       have BK176 := n0_
       have BK177 := n1_
       have BK178 := n2_
       have BK187 := n3_
       have GW187 := n4_
       have GE187 := n5_
       have NB176_187 := n6_
       have NB187_176 := n7_
       have NB177_187 := n8_
       have NB187_177 := n9_
       have NB178_187 := n10_
       have NB187_178 := n11_
       have HB := n12_
       clear n0_ n1_ n2_ n3_ n4_ n5_ n6_ n7_ n8_ n9_ n10_ n11_ n12_
       have hHeld : w31.cell? ⟨gb176, 0, none⟩ = some (.int .i64 a0_0) ∧ w31.cell? ⟨gb176, 1, none⟩ = some (.int .u64 a0_1) ∧ w31.cell? ⟨gb177, 0, none⟩ = some (.int .i64 a1_0) ∧ w31.cell? ⟨gb177, 1, none⟩ = some (.int .u64 a1_1) ∧ w31.cell? ⟨gb178, 0, none⟩ = some (.int .i64 a2_0) ∧ w31.cell? ⟨gb178, 1, none⟩ = some (.int .u64 a2_1) := hS_
       refine norm_ (a' := ?_) ?_ ?_
       rotate_left
       ·simp only [putAll, Act.put, List.setIfInBounds_toArray, List.set_cons_zero, List.set_cons_succ]
        rfl
       refine two_ (i := 9) (j := 11) (Ni := some 18) (Nj := some 8) #[true, true, true, true, true, true, true, true, true, true, true, false, false, false] #[true, true, true, true, true, true, true, true, true, false, true, true, false, false] rfl rfl rfl rfl (two_of HT_.out (by kernel_rfl)) (by decide) (by decide) (fun K hK => ?_) (fun K hK => ?_)
       ·skip
        refine goes_ Try.func21 (by kernel_rfl) rfl #[.agg #[.int .i64 a0_0, .int .u64 a0_1], .agg #[.int .i64 t183, .int .u64 t184]] (by rfl) rfl rfl (by (try simp only [List.map_toArray, List.map_cons, List.map_nil]); first | done | rfl | (simp only [List.length_drop, List.length_take]; rfl)) ?_
        with_reducible refine (wide_Add.calls a0_0 a0_1 t183 t184 t185 t186 _ A7.out).mono ?_
        rintro e w32 ⟨rfl, hb⟩
        refine ⟨_, rfl, ?_⟩
        have n0_ := AK_ (blk_below (by apply_rules [BK176.out, bN_, bD_, bA_]) hb)
        have n1_ := AK_ (blk_below (by apply_rules [BK177.out, bN_, bD_, bA_]) hb)
        have n2_ := AK_ (blk_below (by apply_rules [BK178.out, bN_, bD_, bA_]) hb)
        have n3_ := AK_ (blk_below (by apply_rules [BK187.out, bN_, bD_, bA_]) hb)
        have n4_ := AK_ (below_step (by repeat (first | exact HB.out | apply below_alloc | apply pw_below_drewN | apply below_drew1 | refine below_set ?_ GE176.out | refine below_set ?_ GE177.out | refine below_set ?_ GE178.out | refine below_set ?_ GE187.out)) hb)
        clear BK176 BK177 BK178 BK187 HB
        have BK176 := n0_
        have BK177 := n1_
        have BK178 := n2_
        have BK187 := n3_
        have HB := n4_
        clear n0_ n1_ n2_ n3_ n4_
        (try clear hb)
        (try clear hb2)
        (try clear hk)
        (try clear hi)
        refine hK.out _ _ ⟨(blk_cell BK176.out 0).trans rfl, (blk_cell BK176.out 1).trans rfl, (blk_cell BK177.out 0).trans rfl, (blk_cell BK177.out 1).trans rfl, (blk_cell BK178.out 0).trans rfl, (blk_cell BK178.out 1).trans rfl⟩ (fun hHeld => ?_)
        clear hK K
        refine norm_ (a' := ?_) ?_ ?_
        rotate_left
        ·show Act.put _ (some 18) _ = _
         simp only [Act.put, List.setIfInBounds_toArray, List.set_cons_zero, List.set_cons_succ, i64_w, i32_w]
         rfl
        exact norm_ (by simp only [putAll, Act.put, List.setIfInBounds_toArray, List.set_cons_zero, List.set_cons_succ] <;> rfl) (hJ2_4_8_9_10 (gb187) _ ⟨hHeld, (by apply_rules [BK176.out, bN_, bD_, bA_]), (by apply_rules [BK177.out, bN_, bD_, bA_]), (by apply_rules [BK178.out, bN_, bD_, bA_]), (by apply_rules [BK187.out, bN_, bD_, bA_]), GW187.out, GE187.out, NB176_187.out, NB187_176.out, NB177_187.out, NB187_177.out, NB178_187.out, NB187_178.out, (by repeat (first | exact HB.out | apply below_alloc | apply pw_below_drewN | apply below_drew1 | refine below_set ?_ GE176.out | refine below_set ?_ GE177.out | refine below_set ?_ GE178.out | refine below_set ?_ GE187.out))⟩)
       ·skip
        refine box_step ?hg (N := 8) ?hd (cs := #[.int .i64 0, .int .u64 0]) (t := 24) ?hr ?_; (case hd => rfl); (case hg => rfl); (case hr => first | (go_simp; done) | (go_simp; rfl))
        intro gb188 hg w32 hbox hb
        have n0_ := AK_ (blk_below (by apply_rules [BK176.out, bN_, bD_, bA_]) hb)
        have n1_ := AK_ (blk_below (by apply_rules [BK177.out, bN_, bD_, bA_]) hb)
        have n2_ := AK_ (blk_below (by apply_rules [BK178.out, bN_, bD_, bA_]) hb)
        have n3_ := AK_ (blk_below (by apply_rules [BK187.out, bN_, bD_, bA_]) hb)
        have n4_ := AK_ (below_step (by repeat (first | exact HB.out | apply below_alloc | apply pw_below_drewN | apply below_drew1 | refine below_set ?_ GE176.out | refine below_set ?_ GE177.out | refine below_set ?_ GE178.out | refine below_set ?_ GE187.out)) hb)
        have n5_ := AK_ (hbox)
        have n6_ := AK_ ((by rw [hg]; exact (below_size (by repeat (first | exact HB.out | apply below_alloc | apply pw_below_drewN | apply below_drew1 | refine below_set ?_ GE176.out | refine below_set ?_ GE177.out | refine below_set ?_ GE178.out | refine below_set ?_ GE187.out))) : w.heap.size ≤ gb188))
        have n7_ := AK_ ((by rw [hg]; exact (below_size (by repeat (first | exact HB.out | apply below_alloc | apply pw_below_drewN | apply below_drew1 | refine below_set ?_ GE176.out | refine below_set ?_ GE177.out | refine below_set ?_ GE178.out | refine below_set ?_ GE187.out))) : w.heap.size ≤ gb188))
        have n8_ := AK_ ((by rw [hg]; exact Nat.ne_of_lt (blk_lt (g := gb176) (o := .cells #[.int .i64 a0_0, .int .u64 a0_1] 24 (0, 0)) (by apply_rules [BK176.out, bN_, bD_, bA_])) : gb176 ≠ gb188))
        have n9_ := AK_ ((by rw [hg]; exact Nat.ne_of_gt (blk_lt (g := gb176) (o := .cells #[.int .i64 a0_0, .int .u64 a0_1] 24 (0, 0)) (by apply_rules [BK176.out, bN_, bD_, bA_])) : gb188 ≠ gb176))
        have n10_ := AK_ ((by rw [hg]; exact Nat.ne_of_lt (blk_lt (g := gb177) (o := .cells #[.int .i64 a1_0, .int .u64 a1_1] 24 (0, 0)) (by apply_rules [BK177.out, bN_, bD_, bA_])) : gb177 ≠ gb188))
        have n11_ := AK_ ((by rw [hg]; exact Nat.ne_of_gt (blk_lt (g := gb177) (o := .cells #[.int .i64 a1_0, .int .u64 a1_1] 24 (0, 0)) (by apply_rules [BK177.out, bN_, bD_, bA_])) : gb188 ≠ gb177))
        have n12_ := AK_ ((by rw [hg]; exact Nat.ne_of_lt (blk_lt (g := gb178) (o := .cells #[.int .i64 a2_0, .int .u64 a2_1] 24 (0, 0)) (by apply_rules [BK178.out, bN_, bD_, bA_])) : gb178 ≠ gb188))
        have n13_ := AK_ ((by rw [hg]; exact Nat.ne_of_gt (blk_lt (g := gb178) (o := .cells #[.int .i64 a2_0, .int .u64 a2_1] 24 (0, 0)) (by apply_rules [BK178.out, bN_, bD_, bA_])) : gb188 ≠ gb178))
        have n14_ := AK_ ((by rw [hg]; exact Nat.ne_of_lt (blk_lt (g := gb187) (o := .cells #[.int .i64 0, .int .u64 0] 24 (0, 0)) (by apply_rules [BK187.out, bN_, bD_, bA_])) : gb187 ≠ gb188))
        have n15_ := AK_ ((by rw [hg]; exact Nat.ne_of_gt (blk_lt (g := gb187) (o := .cells #[.int .i64 0, .int .u64 0] 24 (0, 0)) (by apply_rules [BK187.out, bN_, bD_, bA_])) : gb188 ≠ gb187))
        clear BK176 BK177 BK178 BK187 HB
        have BK176 := n0_
        have BK177 := n1_
        have BK178 := n2_
        have BK187 := n3_
        have HB := n4_
        have BK188 := n5_
        have GW188 := n6_
        have GE188 := n7_
        have NB176_188 := n8_
        have NB188_176 := n9_
        have NB177_188 := n10_
        have NB188_177 := n11_
        have NB178_188 := n12_
        have NB188_178 := n13_
        have NB187_188 := n14_
        have NB188_187 := n15_
        clear n0_ n1_ n2_ n3_ n4_ n5_ n6_ n7_ n8_ n9_ n10_ n11_ n12_ n13_ n14_ n15_
        clear hb hbox hg
        refine hK.out _ _ ⟨(blk_cell BK176.out 0).trans rfl, (blk_cell BK176.out 1).trans rfl, (blk_cell BK177.out 0).trans rfl, (blk_cell BK177.out 1).trans rfl, (blk_cell BK178.out 0).trans rfl, (blk_cell BK178.out 1).trans rfl⟩ (fun hHeld => ?_)
        clear hK K
        refine norm_ (a' := ?_) ?_ ?_
        rotate_left
        ·show Act.put _ (some 8) _ = _
         simp only [Act.put, List.setIfInBounds_toArray, List.set_cons_zero, List.set_cons_succ, i64_w, i32_w]
         rfl
        exact norm_ (by simp only [putAll, Act.put, List.setIfInBounds_toArray, List.set_cons_zero, List.set_cons_succ] <;> rfl) (hJ2_4_8_10_11 (gb187, gb188) _ ⟨hHeld, (by apply_rules [BK176.out, bN_, bD_, bA_]), (by apply_rules [BK177.out, bN_, bD_, bA_]), (by apply_rules [BK178.out, bN_, bD_, bA_]), (by apply_rules [BK187.out, bN_, bD_, bA_]), (by apply_rules [BK188.out, bN_, bD_, bA_]), GW187.out, GE187.out, NB176_187.out, NB187_176.out, NB177_187.out, NB187_177.out, NB178_187.out, NB187_178.out, NB188_187.out, NB187_188.out, GW188.out, GE188.out, NB176_188.out, NB188_176.out, NB177_188.out, NB188_177.out, NB178_188.out, NB188_178.out, (by repeat (first | exact HB.out | apply below_alloc | apply pw_below_drewN | apply below_drew1 | refine below_set ?_ GE176.out | refine below_set ?_ GE177.out | refine below_set ?_ GE178.out | refine below_set ?_ GE187.out | refine below_set ?_ GE188.out))⟩)
     ·skip
      rintro _ w31 ⟨hS_, h0_, h1_, h2_, h3_⟩
      have n0_ : Aside0 (w31.heap[gb176]? = some (.cells #[.int .i64 a0_0, .int .u64 a0_1] 24 (0, 0))) := ⟨h0_⟩
      have n1_ : Aside0 (w31.heap[gb177]? = some (.cells #[.int .i64 a1_0, .int .u64 a1_1] 24 (0, 0))) := ⟨h1_⟩
      have n2_ : Aside0 (w31.heap[gb178]? = some (.cells #[.int .i64 a2_0, .int .u64 a2_1] 24 (0, 0))) := ⟨h2_⟩
      have n3_ : Aside0 (Below w.heap.size w w31) := ⟨h3_⟩
      clear BK176 BK177 BK178 HB h0_ h1_ h2_ h3_
      have BK176 := n0_
      have BK177 := n1_
      have BK178 := n2_
      have HB := n3_
      clear n0_ n1_ n2_ n3_
      have hHeld : w31.cell? ⟨gb176, 0, none⟩ = some (.int .i64 a0_0) ∧ w31.cell? ⟨gb176, 1, none⟩ = some (.int .u64 a0_1) ∧ w31.cell? ⟨gb177, 0, none⟩ = some (.int .i64 a1_0) ∧ w31.cell? ⟨gb177, 1, none⟩ = some (.int .u64 a1_1) ∧ w31.cell? ⟨gb178, 0, none⟩ = some (.int .i64 a2_0) ∧ w31.cell? ⟨gb178, 1, none⟩ = some (.int .u64 a2_1) := hS_
      refine norm_ (a' := ?_) ?_ ?_
      rotate_left
      ·simp only [putAll, Act.put, List.setIfInBounds_toArray, List.set_cons_zero, List.set_cons_succ]
       rfl
      refine two_ (i := 10) (j := 11) (Ni := some 7) (Nj := some 8) #[true, true, true, true, true, true, true, true, true, true, true, false, false, false] #[true, true, true, true, true, true, true, true, true, true, false, true, false, false] rfl rfl rfl rfl (two_of HT_.out (by kernel_rfl)) (by decide) (by decide) (fun K hK => ?_) (fun K hK => ?_)
      ·skip
       refine box_step ?hg (N := 7) ?hd (cs := #[.int .i64 0, .int .u64 0]) (t := 24) ?hr ?_; (case hd => rfl); (case hg => rfl); (case hr => first | (go_simp; done) | (go_simp; rfl))
       intro gb187 hg w32 hbox hb
       have n0_ := AK_ (blk_below (by apply_rules [BK176.out, bN_, bD_, bA_]) hb)
       have n1_ := AK_ (blk_below (by apply_rules [BK177.out, bN_, bD_, bA_]) hb)
       have n2_ := AK_ (blk_below (by apply_rules [BK178.out, bN_, bD_, bA_]) hb)
       have n3_ := AK_ (below_step (by repeat (first | exact HB.out | apply below_alloc | apply pw_below_drewN | apply below_drew1 | refine below_set ?_ GE176.out | refine below_set ?_ GE177.out | refine below_set ?_ GE178.out)) hb)
       have n4_ := AK_ (hbox)
       have n5_ := AK_ ((by rw [hg]; exact (below_size (by repeat (first | exact HB.out | apply below_alloc | apply pw_below_drewN | apply below_drew1 | refine below_set ?_ GE176.out | refine below_set ?_ GE177.out | refine below_set ?_ GE178.out))) : w.heap.size ≤ gb187))
       have n6_ := AK_ ((by rw [hg]; exact (below_size (by repeat (first | exact HB.out | apply below_alloc | apply pw_below_drewN | apply below_drew1 | refine below_set ?_ GE176.out | refine below_set ?_ GE177.out | refine below_set ?_ GE178.out))) : w.heap.size ≤ gb187))
       have n7_ := AK_ ((by rw [hg]; exact Nat.ne_of_lt (blk_lt (g := gb176) (o := .cells #[.int .i64 a0_0, .int .u64 a0_1] 24 (0, 0)) (by apply_rules [BK176.out, bN_, bD_, bA_])) : gb176 ≠ gb187))
       have n8_ := AK_ ((by rw [hg]; exact Nat.ne_of_gt (blk_lt (g := gb176) (o := .cells #[.int .i64 a0_0, .int .u64 a0_1] 24 (0, 0)) (by apply_rules [BK176.out, bN_, bD_, bA_])) : gb187 ≠ gb176))
       have n9_ := AK_ ((by rw [hg]; exact Nat.ne_of_lt (blk_lt (g := gb177) (o := .cells #[.int .i64 a1_0, .int .u64 a1_1] 24 (0, 0)) (by apply_rules [BK177.out, bN_, bD_, bA_])) : gb177 ≠ gb187))
       have n10_ := AK_ ((by rw [hg]; exact Nat.ne_of_gt (blk_lt (g := gb177) (o := .cells #[.int .i64 a1_0, .int .u64 a1_1] 24 (0, 0)) (by apply_rules [BK177.out, bN_, bD_, bA_])) : gb187 ≠ gb177))
       have n11_ := AK_ ((by rw [hg]; exact Nat.ne_of_lt (blk_lt (g := gb178) (o := .cells #[.int .i64 a2_0, .int .u64 a2_1] 24 (0, 0)) (by apply_rules [BK178.out, bN_, bD_, bA_])) : gb178 ≠ gb187))
       have n12_ := AK_ ((by rw [hg]; exact Nat.ne_of_gt (blk_lt (g := gb178) (o := .cells #[.int .i64 a2_0, .int .u64 a2_1] 24 (0, 0)) (by apply_rules [BK178.out, bN_, bD_, bA_])) : gb187 ≠ gb178))
       clear BK176 BK177 BK178 HB
       have BK176 := n0_
       have BK177 := n1_
       have BK178 := n2_
       have HB := n3_
       have BK187 := n4_
       have GW187 := n5_
       have GE187 := n6_
       have NB176_187 := n7_
       have NB187_176 := n8_
       have NB177_187 := n9_
       have NB187_177 := n10_
       have NB178_187 := n11_
       have NB187_178 := n12_
       clear n0_ n1_ n2_ n3_ n4_ n5_ n6_ n7_ n8_ n9_ n10_ n11_ n12_
       clear hb hbox hg
       refine hK.out _ _ ⟨(blk_cell BK176.out 0).trans rfl, (blk_cell BK176.out 1).trans rfl, (blk_cell BK177.out 0).trans rfl, (blk_cell BK177.out 1).trans rfl, (blk_cell BK178.out 0).trans rfl, (blk_cell BK178.out 1).trans rfl⟩ (fun hHeld => ?_)
       clear hK K
       refine norm_ (a' := ?_) ?_ ?_
       rotate_left
       ·show Act.put _ (some 7) _ = _
        simp only [Act.put, List.setIfInBounds_toArray, List.set_cons_zero, List.set_cons_succ, i64_w, i32_w]
        rfl
       exact norm_ (by simp only [putAll, Act.put, List.setIfInBounds_toArray, List.set_cons_zero, List.set_cons_succ] <;> rfl) (hJ2_4_8_9_10 (gb187) _ ⟨hHeld, (by apply_rules [BK176.out, bN_, bD_, bA_]), (by apply_rules [BK177.out, bN_, bD_, bA_]), (by apply_rules [BK178.out, bN_, bD_, bA_]), (by apply_rules [BK187.out, bN_, bD_, bA_]), GW187.out, GE187.out, NB176_187.out, NB187_176.out, NB177_187.out, NB187_177.out, NB178_187.out, NB187_178.out, (by repeat (first | exact HB.out | apply below_alloc | apply pw_below_drewN | apply below_drew1 | refine below_set ?_ GE176.out | refine below_set ?_ GE177.out | refine below_set ?_ GE178.out | refine below_set ?_ GE187.out))⟩)
      ·skip
       refine box_step ?hg (N := 8) ?hd (cs := #[.int .i64 0, .int .u64 0]) (t := 24) ?hr ?_; (case hd => rfl); (case hg => rfl); (case hr => first | (go_simp; done) | (go_simp; rfl))
       intro gb188 hg w32 hbox hb
       have n0_ := AK_ (blk_below (by apply_rules [BK176.out, bN_, bD_, bA_]) hb)
       have n1_ := AK_ (blk_below (by apply_rules [BK177.out, bN_, bD_, bA_]) hb)
       have n2_ := AK_ (blk_below (by apply_rules [BK178.out, bN_, bD_, bA_]) hb)
       have n3_ := AK_ (below_step (by repeat (first | exact HB.out | apply below_alloc | apply pw_below_drewN | apply below_drew1 | refine below_set ?_ GE176.out | refine below_set ?_ GE177.out | refine below_set ?_ GE178.out)) hb)
       have n4_ := AK_ (hbox)
       have n5_ := AK_ ((by rw [hg]; exact (below_size (by repeat (first | exact HB.out | apply below_alloc | apply pw_below_drewN | apply below_drew1 | refine below_set ?_ GE176.out | refine below_set ?_ GE177.out | refine below_set ?_ GE178.out))) : w.heap.size ≤ gb188))
       have n6_ := AK_ ((by rw [hg]; exact (below_size (by repeat (first | exact HB.out | apply below_alloc | apply pw_below_drewN | apply below_drew1 | refine below_set ?_ GE176.out | refine below_set ?_ GE177.out | refine below_set ?_ GE178.out))) : w.heap.size ≤ gb188))
       have n7_ := AK_ ((by rw [hg]; exact Nat.ne_of_lt (blk_lt (g := gb176) (o := .cells #[.int .i64 a0_0, .int .u64 a0_1] 24 (0, 0)) (by apply_rules [BK176.out, bN_, bD_, bA_])) : gb176 ≠ gb188))
       have n8_ := AK_ ((by rw [hg]; exact Nat.ne_of_gt (blk_lt (g := gb176) (o := .cells #[.int .i64 a0_0, .int .u64 a0_1] 24 (0, 0)) (by apply_rules [BK176.out, bN_, bD_, bA_])) : gb188 ≠ gb176))
       have n9_ := AK_ ((by rw [hg]; exact Nat.ne_of_lt (blk_lt (g := gb177) (o := .cells #[.int .i64 a1_0, .int .u64 a1_1] 24 (0, 0)) (by apply_rules [BK177.out, bN_, bD_, bA_])) : gb177 ≠ gb188))
       have n10_ := AK_ ((by rw [hg]; exact Nat.ne_of_gt (blk_lt (g := gb177) (o := .cells #[.int .i64 a1_0, .int .u64 a1_1] 24 (0, 0)) (by apply_rules [BK177.out, bN_, bD_, bA_])) : gb188 ≠ gb177))
       have n11_ := AK_ ((by rw [hg]; exact Nat.ne_of_lt (blk_lt (g := gb178) (o := .cells #[.int .i64 a2_0, .int .u64 a2_1] 24 (0, 0)) (by apply_rules [BK178.out, bN_, bD_, bA_])) : gb178 ≠ gb188))
       have n12_ := AK_ ((by rw [hg]; exact Nat.ne_of_gt (blk_lt (g := gb178) (o := .cells #[.int .i64 a2_0, .int .u64 a2_1] 24 (0, 0)) (by apply_rules [BK178.out, bN_, bD_, bA_])) : gb188 ≠ gb178))
       clear BK176 BK177 BK178 HB
       have BK176 := n0_
       have BK177 := n1_
       have BK178 := n2_
       have HB := n3_
       have BK188 := n4_
       have GW188 := n5_
       have GE188 := n6_
       have NB176_188 := n7_
       have NB188_176 := n8_
       have NB177_188 := n9_
       have NB188_177 := n10_
       have NB178_188 := n11_
       have NB188_178 := n12_
       clear n0_ n1_ n2_ n3_ n4_ n5_ n6_ n7_ n8_ n9_ n10_ n11_ n12_
       clear hb hbox hg
       refine hK.out _ _ ⟨(blk_cell BK176.out 0).trans rfl, (blk_cell BK176.out 1).trans rfl, (blk_cell BK177.out 0).trans rfl, (blk_cell BK177.out 1).trans rfl, (blk_cell BK178.out 0).trans rfl, (blk_cell BK178.out 1).trans rfl⟩ (fun hHeld => ?_)
       clear hK K
       refine norm_ (a' := ?_) ?_ ?_
       rotate_left
       ·show Act.put _ (some 8) _ = _
        simp only [Act.put, List.setIfInBounds_toArray, List.set_cons_zero, List.set_cons_succ, i64_w, i32_w]
        rfl
       exact norm_ (by simp only [putAll, Act.put, List.setIfInBounds_toArray, List.set_cons_zero, List.set_cons_succ] <;> rfl) (hJ2_4_8_9_11 (gb188) _ ⟨hHeld, (by apply_rules [BK176.out, bN_, bD_, bA_]), (by apply_rules [BK177.out, bN_, bD_, bA_]), (by apply_rules [BK178.out, bN_, bD_, bA_]), (by apply_rules [BK188.out, bN_, bD_, bA_]), GW188.out, GE188.out, NB176_188.out, NB188_176.out, NB177_188.out, NB188_177.out, NB178_188.out, NB188_178.out, (by repeat (first | exact HB.out | apply below_alloc | apply pw_below_drewN | apply below_drew1 | refine below_set ?_ GE176.out | refine below_set ?_ GE177.out | refine below_set ?_ GE178.out | refine below_set ?_ GE188.out))⟩)
    ·skip
     rintro ⟨gb187, gb188⟩ w32 ⟨hS_, h0_, h1_, h2_, h3_, h4_, h5_, h6_, h7_, h8_, h9_, h10_, h11_, h12_, h13_, h14_, h15_, h16_, h17_, h18_, h19_, h20_, h21_, h22_, h23_⟩
     have n0_ : Aside0 (w32.heap[gb176]? = some (.cells #[.int .i64 a0_0, .int .u64 a0_1] 24 (0, 0))) := ⟨h0_⟩
     have n1_ : Aside0 (w32.heap[gb177]? = some (.cells #[.int .i64 a1_0, .int .u64 a1_1] 24 (0, 0))) := ⟨h1_⟩
     have n2_ : Aside0 (w32.heap[gb178]? = some (.cells #[.int .i64 a2_0, .int .u64 a2_1] 24 (0, 0))) := ⟨h2_⟩
     have n3_ : Aside0 (w32.heap[gb187]? = some (.cells #[.int .i64 0, .int .u64 0] 24 (0, 0))) := ⟨h3_⟩
     have n4_ : Aside0 (w32.heap[gb188]? = some (.cells #[.int .i64 0, .int .u64 0] 24 (0, 0))) := ⟨h4_⟩
     have n5_ : Aside0 (w.heap.size ≤ gb187) := ⟨h5_⟩
     have n6_ : Aside0 (w.heap.size ≤ gb187) := ⟨h6_⟩
     have n7_ : Aside0 (gb176 ≠ gb187) := ⟨h7_⟩
     have n8_ : Aside0 (gb187 ≠ gb176) := ⟨h8_⟩
     have n9_ : Aside0 (gb177 ≠ gb187) := ⟨h9_⟩
     have n10_ : Aside0 (gb187 ≠ gb177) := ⟨h10_⟩
     have n11_ : Aside0 (gb178 ≠ gb187) := ⟨h11_⟩
     have n12_ : Aside0 (gb187 ≠ gb178) := ⟨h12_⟩
     have n13_ : Aside0 (gb188 ≠ gb187) := ⟨h13_⟩
     have n14_ : Aside0 (gb187 ≠ gb188) := ⟨h14_⟩
     have n15_ : Aside0 (w.heap.size ≤ gb188) := ⟨h15_⟩
     have n16_ : Aside0 (w.heap.size ≤ gb188) := ⟨h16_⟩
     have n17_ : Aside0 (gb176 ≠ gb188) := ⟨h17_⟩
     have n18_ : Aside0 (gb188 ≠ gb176) := ⟨h18_⟩
     have n19_ : Aside0 (gb177 ≠ gb188) := ⟨h19_⟩
     have n20_ : Aside0 (gb188 ≠ gb177) := ⟨h20_⟩
     have n21_ : Aside0 (gb178 ≠ gb188) := ⟨h21_⟩
     have n22_ : Aside0 (gb188 ≠ gb178) := ⟨h22_⟩
     have n23_ : Aside0 (Below w.heap.size w w32) := ⟨h23_⟩
     clear BK176 BK177 BK178 HB h0_ h1_ h2_ h3_ h4_ h5_ h6_ h7_ h8_ h9_ h10_ h11_ h12_ h13_ h14_ h15_ h16_ h17_ h18_ h19_ h20_ h21_ h22_ h23_
     have BK176 := n0_
     have BK177 := n1_
     have BK178 := n2_
     have BK187 := n3_
     have BK188 := n4_
     have GW187 := n5_
     have GE187 := n6_
     have NB176_187 := n7_
     have NB187_176 := n8_
     have NB177_187 := n9_
     have NB187_177 := n10_
     have NB178_187 := n11_
     have NB187_178 := n12_
     have NB188_187 := n13_
     have NB187_188 := n14_
     have GW188 := n15_
     have GE188 := n16_
     have NB176_188 := n17_
     have NB188_176 := n18_
     have NB177_188 := n19_
     have NB188_177 := n20_
     have NB178_188 := n21_
     have NB188_178 := n22_
     have HB := n23_
     clear n0_ n1_ n2_ n3_ n4_ n5_ n6_ n7_ n8_ n9_ n10_ n11_ n12_ n13_ n14_ n15_ n16_ n17_ n18_ n19_ n20_ n21_ n22_ n23_
     have hHeld : w32.cell? ⟨gb176, 0, none⟩ = some (.int .i64 a0_0) ∧ w32.cell? ⟨gb176, 1, none⟩ = some (.int .u64 a0_1) ∧ w32.cell? ⟨gb177, 0, none⟩ = some (.int .i64 a1_0) ∧ w32.cell? ⟨gb177, 1, none⟩ = some (.int .u64 a1_1) ∧ w32.cell? ⟨gb178, 0, none⟩ = some (.int .i64 a2_0) ∧ w32.cell? ⟨gb178, 1, none⟩ = some (.int .u64 a2_1) := hS_
     refine norm_ (a' := ?_) ?_ ?_
     rotate_left
     ·simp only [putAll, Act.put, List.setIfInBounds_toArray, List.set_cons_zero, List.set_cons_succ]
      rfl
     refine one_ (i := 9) (N := some 18) #[true, true, true, true, true, true, true, true, true, true, true, true, false, false] rfl rfl (one_of HT_.out (by kernel_rfl)) (by decide) (fun K hK => ?_)
     refine goes_ Try.func21 (by kernel_rfl) rfl #[.agg #[.int .i64 a0_0, .int .u64 a0_1], .agg #[.int .i64 t183, .int .u64 t184]] (by rfl) rfl rfl (by (try simp only [List.map_toArray, List.map_cons, List.map_nil]); first | done | rfl | (simp only [List.length_drop, List.length_take]; rfl)) ?_
     with_reducible refine (wide_Add.calls a0_0 a0_1 t183 t184 t185 t186 _ A7.out).mono ?_
     rintro e w33 ⟨rfl, hb⟩
     refine ⟨_, rfl, ?_⟩
     have n0_ := AK_ (blk_below (by apply_rules [BK176.out, bN_, bD_, bA_]) hb)
     have n1_ := AK_ (blk_below (by apply_rules [BK177.out, bN_, bD_, bA_]) hb)
     have n2_ := AK_ (blk_below (by apply_rules [BK178.out, bN_, bD_, bA_]) hb)
     have n3_ := AK_ (blk_below (by apply_rules [BK187.out, bN_, bD_, bA_]) hb)
     have n4_ := AK_ (blk_below (by apply_rules [BK188.out, bN_, bD_, bA_]) hb)
     have n5_ := AK_ (below_step (by repeat (first | exact HB.out | apply below_alloc | apply pw_below_drewN | apply below_drew1 | refine below_set ?_ GE176.out | refine below_set ?_ GE177.out | refine below_set ?_ GE178.out | refine below_set ?_ GE187.out | refine below_set ?_ GE188.out)) hb)
     clear BK176 BK177 BK178 BK187 BK188 HB
     have BK176 := n0_
     have BK177 := n1_
     have BK178 := n2_
     have BK187 := n3_
     have BK188 := n4_
     have HB := n5_
     clear n0_ n1_ n2_ n3_ n4_ n5_
     (try clear hb)
     (try clear hb2)
     (try clear hk)
     (try clear hi)
     refine hK.out _ _ ⟨(blk_cell BK176.out 0).trans rfl, (blk_cell BK176.out 1).trans rfl, (blk_cell BK177.out 0).trans rfl, (blk_cell BK177.out 1).trans rfl, (blk_cell BK178.out 0).trans rfl, (blk_cell BK178.out 1).trans rfl⟩ (fun hHeld => ?_)
     clear hK K
     refine norm_ (a' := ?_) ?_ ?_
     rotate_left
     ·show Act.put _ (some 18) _ = _
      simp only [Act.put, List.setIfInBounds_toArray, List.set_cons_zero, List.set_cons_succ, i64_w, i32_w]
      rfl
     exact norm_ (by simp only [putAll, Act.put, List.setIfInBounds_toArray, List.set_cons_zero, List.set_cons_succ] <;> rfl) (hJ2_4_8_9_10_11 (gb187, gb188) _ ⟨hHeld, (by apply_rules [BK176.out, bN_, bD_, bA_]), (by apply_rules [BK177.out, bN_, bD_, bA_]), (by apply_rules [BK178.out, bN_, bD_, bA_]), (by apply_rules [BK187.out, bN_, bD_, bA_]), (by apply_rules [BK188.out, bN_, bD_, bA_]), GW187.out, GE187.out, NB176_187.out, NB187_176.out, NB177_187.out, NB187_177.out, NB178_187.out, NB187_178.out, NB188_187.out, NB187_188.out, GW188.out, GE188.out, NB176_188.out, NB188_176.out, NB177_188.out, NB188_177.out, NB178_188.out, NB188_178.out, (by repeat (first | exact HB.out | apply below_alloc | apply pw_below_drewN | apply below_drew1 | refine below_set ?_ GE176.out | refine below_set ?_ GE177.out | refine below_set ?_ GE178.out | refine below_set ?_ GE187.out | refine below_set ?_ GE188.out))⟩)
   ·skip
    rintro gb188 w32 ⟨hS_, h0_, h1_, h2_, h3_, h4_, h5_, h6_, h7_, h8_, h9_, h10_, h11_, h12_⟩
    have n0_ : Aside0 (w32.heap[gb176]? = some (.cells #[.int .i64 a0_0, .int .u64 a0_1] 24 (0, 0))) := ⟨h0_⟩
    have n1_ : Aside0 (w32.heap[gb177]? = some (.cells #[.int .i64 a1_0, .int .u64 a1_1] 24 (0, 0))) := ⟨h1_⟩
    have n2_ : Aside0 (w32.heap[gb178]? = some (.cells #[.int .i64 a2_0, .int .u64 a2_1] 24 (0, 0))) := ⟨h2_⟩
    have n3_ : Aside0 (w32.heap[gb188]? = some (.cells #[.int .i64 0, .int .u64 0] 24 (0, 0))) := ⟨h3_⟩
    have n4_ : Aside0 (w.heap.size ≤ gb188) := ⟨h4_⟩
    have n5_ : Aside0 (w.heap.size ≤ gb188) := ⟨h5_⟩
    have n6_ : Aside0 (gb176 ≠ gb188) := ⟨h6_⟩
    have n7_ : Aside0 (gb188 ≠ gb176) := ⟨h7_⟩
    have n8_ : Aside0 (gb177 ≠ gb188) := ⟨h8_⟩
    have n9_ : Aside0 (gb188 ≠ gb177) := ⟨h9_⟩
    have n10_ : Aside0 (gb178 ≠ gb188) := ⟨h10_⟩
    have n11_ : Aside0 (gb188 ≠ gb178) := ⟨h11_⟩
    have n12_ : Aside0 (Below w.heap.size w w32) := ⟨h12_⟩
    clear BK176 BK177 BK178 HB h0_ h1_ h2_ h3_ h4_ h5_ h6_ h7_ h8_ h9_ h10_ h11_ h12_
    have BK176 := n0_
    have BK177 := n1_
    have BK178 := n2_
    have BK188 := n3_
    have GW188 := n4_
    have GE188 := n5_
    have NB176_188 := n6_
    have NB188_176 := n7_
    have NB177_188 := n8_
    have NB188_177 := n9_
    have NB178_188 := n10_
    have NB188_178 := n11_
    have HB := n12_
    clear n0_ n1_ n2_ n3_ n4_ n5_ n6_ n7_ n8_ n9_ n10_ n11_ n12_
    have hHeld : w32.cell? ⟨gb176, 0, none⟩ = some (.int .i64 a0_0) ∧ w32.cell? ⟨gb176, 1, none⟩ = some (.int .u64 a0_1) ∧ w32.cell? ⟨gb177, 0, none⟩ = some (.int .i64 a1_0) ∧ w32.cell? ⟨gb177, 1, none⟩ = some (.int .u64 a1_1) ∧ w32.cell? ⟨gb178, 0, none⟩ = some (.int .i64 a2_0) ∧ w32.cell? ⟨gb178, 1, none⟩ = some (.int .u64 a2_1) := hS_
    refine norm_ (a' := ?_) ?_ ?_
    rotate_left
    ·simp only [putAll, Act.put, List.setIfInBounds_toArray, List.set_cons_zero, List.set_cons_succ]
     rfl
    refine one_ (i := 10) (N := some 7) #[true, true, true, true, true, true, true, true, true, true, true, true, false, false] rfl rfl (one_of HT_.out (by kernel_rfl)) (by decide) (fun K hK => ?_)
    refine box_step ?hg (N := 7) ?hd (cs := #[.int .i64 0, .int .u64 0]) (t := 24) ?hr ?_; (case hd => rfl); (case hg => rfl); (case hr => first | (go_simp; done) | (go_simp; rfl))
    intro gb187 hg w33 hbox hb
    have n0_ := AK_ (blk_below (by apply_rules [BK176.out, bN_, bD_, bA_]) hb)
    have n1_ := AK_ (blk_below (by apply_rules [BK177.out, bN_, bD_, bA_]) hb)
    have n2_ := AK_ (blk_below (by apply_rules [BK178.out, bN_, bD_, bA_]) hb)
    have n3_ := AK_ (blk_below (by apply_rules [BK188.out, bN_, bD_, bA_]) hb)
    have n4_ := AK_ (below_step (by repeat (first | exact HB.out | apply below_alloc | apply pw_below_drewN | apply below_drew1 | refine below_set ?_ GE176.out | refine below_set ?_ GE177.out | refine below_set ?_ GE178.out | refine below_set ?_ GE188.out)) hb)
    have n5_ := AK_ (hbox)
    have n6_ := AK_ ((by rw [hg]; exact (below_size (by repeat (first | exact HB.out | apply below_alloc | apply pw_below_drewN | apply below_drew1 | refine below_set ?_ GE176.out | refine below_set ?_ GE177.out | refine below_set ?_ GE178.out | refine below_set ?_ GE188.out))) : w.heap.size ≤ gb187))
    have n7_ := AK_ ((by rw [hg]; exact (below_size (by repeat (first | exact HB.out | apply below_alloc | apply pw_below_drewN | apply below_drew1 | refine below_set ?_ GE176.out | refine below_set ?_ GE177.out | refine below_set ?_ GE178.out | refine below_set ?_ GE188.out))) : w.heap.size ≤ gb187))
    have n8_ := AK_ ((by rw [hg]; exact Nat.ne_of_lt (blk_lt (g := gb176) (o := .cells #[.int .i64 a0_0, .int .u64 a0_1] 24 (0, 0)) (by apply_rules [BK176.out, bN_, bD_, bA_])) : gb176 ≠ gb187))
    have n9_ := AK_ ((by rw [hg]; exact Nat.ne_of_gt (blk_lt (g := gb176) (o := .cells #[.int .i64 a0_0, .int .u64 a0_1] 24 (0, 0)) (by apply_rules [BK176.out, bN_, bD_, bA_])) : gb187 ≠ gb176))
    have n10_ := AK_ ((by rw [hg]; exact Nat.ne_of_lt (blk_lt (g := gb177) (o := .cells #[.int .i64 a1_0, .int .u64 a1_1] 24 (0, 0)) (by apply_rules [BK177.out, bN_, bD_, bA_])) : gb177 ≠ gb187))
    have n11_ := AK_ ((by rw [hg]; exact Nat.ne_of_gt (blk_lt (g := gb177) (o := .cells #[.int .i64 a1_0, .int .u64 a1_1] 24 (0, 0)) (by apply_rules [BK177.out, bN_, bD_, bA_])) : gb187 ≠ gb177))
    have n12_ := AK_ ((by rw [hg]; exact Nat.ne_of_lt (blk_lt (g := gb178) (o := .cells #[.int .i64 a2_0, .int .u64 a2_1] 24 (0, 0)) (by apply_rules [BK178.out, bN_, bD_, bA_])) : gb178 ≠ gb187))
    have n13_ := AK_ ((by rw [hg]; exact Nat.ne_of_gt (blk_lt (g := gb178) (o := .cells #[.int .i64 a2_0, .int .u64 a2_1] 24 (0, 0)) (by apply_rules [BK178.out, bN_, bD_, bA_])) : gb187 ≠ gb178))
    have n14_ := AK_ ((by rw [hg]; exact Nat.ne_of_lt (blk_lt (g := gb188) (o := .cells #[.int .i64 0, .int .u64 0] 24 (0, 0)) (by apply_rules [BK188.out, bN_, bD_, bA_])) : gb188 ≠ gb187))
    have n15_ := AK_ ((by rw [hg]; exact Nat.ne_of_gt (blk_lt (g := gb188) (o := .cells #[.int .i64 0, .int .u64 0] 24 (0, 0)) (by apply_rules [BK188.out, bN_, bD_, bA_])) : gb187 ≠ gb188))
    clear BK176 BK177 BK178 BK188 HB
    have BK176 := n0_
    have BK177 := n1_
    have BK178 := n2_
    have BK188 := n3_
    have HB := n4_
    have BK187 := n5_
    have GW187 := n6_
    have GE187 := n7_
    have NB176_187 := n8_
    have NB187_176 := n9_
    have NB177_187 := n10_
    have NB187_177 := n11_
    have NB178_187 := n12_
    have NB187_178 := n13_
    have NB188_187 := n14_
    have NB187_188 := n15_
    clear n0_ n1_ n2_ n3_ n4_ n5_ n6_ n7_ n8_ n9_ n10_ n11_ n12_ n13_ n14_ n15_
    clear hb hbox hg
    refine hK.out _ _ ⟨(blk_cell BK176.out 0).trans rfl, (blk_cell BK176.out 1).trans rfl, (blk_cell BK177.out 0).trans rfl, (blk_cell BK177.out 1).trans rfl, (blk_cell BK178.out 0).trans rfl, (blk_cell BK178.out 1).trans rfl⟩ (fun hHeld => ?_)
    clear hK K
    refine norm_ (a' := ?_) ?_ ?_
    rotate_left
    ·show Act.put _ (some 7) _ = _
     simp only [Act.put, List.setIfInBounds_toArray, List.set_cons_zero, List.set_cons_succ, i64_w, i32_w]
     rfl
    exact norm_ (by simp only [putAll, Act.put, List.setIfInBounds_toArray, List.set_cons_zero, List.set_cons_succ] <;> rfl) (hJ2_4_8_9_10_11 (gb187, gb188) _ ⟨hHeld, (by apply_rules [BK176.out, bN_, bD_, bA_]), (by apply_rules [BK177.out, bN_, bD_, bA_]), (by apply_rules [BK178.out, bN_, bD_, bA_]), (by apply_rules [BK187.out, bN_, bD_, bA_]), (by apply_rules [BK188.out, bN_, bD_, bA_]), GW187.out, GE187.out, NB176_187.out, NB187_176.out, NB177_187.out, NB187_177.out, NB178_187.out, NB187_178.out, NB188_187.out, NB187_188.out, GW188.out, GE188.out, NB176_188.out, NB188_176.out, NB177_188.out, NB188_177.out, NB178_188.out, NB188_178.out, (by repeat (first | exact HB.out | apply below_alloc | apply pw_below_drewN | apply below_drew1 | refine below_set ?_ GE176.out | refine below_set ?_ GE177.out | refine below_set ?_ GE178.out | refine below_set ?_ GE188.out | refine below_set ?_ GE187.out))⟩)
  ·skip
   rintro gb187 w32 ⟨hS_, h0_, h1_, h2_, h3_, h4_, h5_, h6_, h7_, h8_, h9_, h10_, h11_, h12_⟩
   have n0_ : Aside0 (w32.heap[gb176]? = some (.cells #[.int .i64 a0_0, .int .u64 a0_1] 24 (0, 0))) := ⟨h0_⟩
   have n1_ : Aside0 (w32.heap[gb177]? = some (.cells #[.int .i64 a1_0, .int .u64 a1_1] 24 (0, 0))) := ⟨h1_⟩
   have n2_ : Aside0 (w32.heap[gb178]? = some (.cells #[.int .i64 a2_0, .int .u64 a2_1] 24 (0, 0))) := ⟨h2_⟩
   have n3_ : Aside0 (w32.heap[gb187]? = some (.cells #[.int .i64 0, .int .u64 0] 24 (0, 0))) := ⟨h3_⟩
   have n4_ : Aside0 (w.heap.size ≤ gb187) := ⟨h4_⟩
   have n5_ : Aside0 (w.heap.size ≤ gb187) := ⟨h5_⟩
   have n6_ : Aside0 (gb176 ≠ gb187) := ⟨h6_⟩
   have n7_ : Aside0 (gb187 ≠ gb176) := ⟨h7_⟩
   have n8_ : Aside0 (gb177 ≠ gb187) := ⟨h8_⟩
   have n9_ : Aside0 (gb187 ≠ gb177) := ⟨h9_⟩
   have n10_ : Aside0 (gb178 ≠ gb187) := ⟨h10_⟩
   have n11_ : Aside0 (gb187 ≠ gb178) := ⟨h11_⟩
   have n12_ : Aside0 (Below w.heap.size w w32) := ⟨h12_⟩
   clear BK176 BK177 BK178 HB h0_ h1_ h2_ h3_ h4_ h5_ h6_ h7_ h8_ h9_ h10_ h11_ h12_
   have BK176 := n0_
   have BK177 := n1_
   have BK178 := n2_
   have BK187 := n3_
   have GW187 := n4_
   have GE187 := n5_
   have NB176_187 := n6_
   have NB187_176 := n7_
   have NB177_187 := n8_
   have NB187_177 := n9_
   have NB178_187 := n10_
   have NB187_178 := n11_
   have HB := n12_
   clear n0_ n1_ n2_ n3_ n4_ n5_ n6_ n7_ n8_ n9_ n10_ n11_ n12_
   have hHeld : w32.cell? ⟨gb176, 0, none⟩ = some (.int .i64 a0_0) ∧ w32.cell? ⟨gb176, 1, none⟩ = some (.int .u64 a0_1) ∧ w32.cell? ⟨gb177, 0, none⟩ = some (.int .i64 a1_0) ∧ w32.cell? ⟨gb177, 1, none⟩ = some (.int .u64 a1_1) ∧ w32.cell? ⟨gb178, 0, none⟩ = some (.int .i64 a2_0) ∧ w32.cell? ⟨gb178, 1, none⟩ = some (.int .u64 a2_1) := hS_
   refine norm_ (a' := ?_) ?_ ?_
   rotate_left
   ·simp only [putAll, Act.put, List.setIfInBounds_toArray, List.set_cons_zero, List.set_cons_succ]
    rfl
   refine one_ (i := 11) (N := some 8) #[true, true, true, true, true, true, true, true, true, true, true, true, false, false] rfl rfl (one_of HT_.out (by kernel_rfl)) (by decide) (fun K hK => ?_)
   refine box_step ?hg (N := 8) ?hd (cs := #[.int .i64 0, .int .u64 0]) (t := 24) ?hr ?_; (case hd => rfl); (case hg => rfl); (case hr => first | (go_simp; done) | (go_simp; rfl))
   intro gb188 hg w33 hbox hb
   have n0_ := AK_ (blk_below (by apply_rules [BK176.out, bN_, bD_, bA_]) hb)
   have n1_ := AK_ (blk_below (by apply_rules [BK177.out, bN_, bD_, bA_]) hb)
   have n2_ := AK_ (blk_below (by apply_rules [BK178.out, bN_, bD_, bA_]) hb)
   have n3_ := AK_ (blk_below (by apply_rules [BK187.out, bN_, bD_, bA_]) hb)
   have n4_ := AK_ (below_step (by repeat (first | exact HB.out | apply below_alloc | apply pw_below_drewN | apply below_drew1 | refine below_set ?_ GE176.out | refine below_set ?_ GE177.out | refine below_set ?_ GE178.out | refine below_set ?_ GE187.out)) hb)
   have n5_ := AK_ (hbox)
   have n6_ := AK_ ((by rw [hg]; exact (below_size (by repeat (first | exact HB.out | apply below_alloc | apply pw_below_drewN | apply below_drew1 | refine below_set ?_ GE176.out | refine below_set ?_ GE177.out | refine below_set ?_ GE178.out | refine below_set ?_ GE187.out))) : w.heap.size ≤ gb188))
   have n7_ := AK_ ((by rw [hg]; exact (below_size (by repeat (first | exact HB.out | apply below_alloc | apply pw_below_drewN | apply below_drew1 | refine below_set ?_ GE176.out | refine below_set ?_ GE177.out | refine below_set ?_ GE178.out | refine below_set ?_ GE187.out))) : w.heap.size ≤ gb188))
   have n8_ := AK_ ((by rw [hg]; exact Nat.ne_of_lt (blk_lt (g := gb176) (o := .cells #[.int .i64 a0_0, .int .u64 a0_1] 24 (0, 0)) (by apply_rules [BK176.out, bN_, bD_, bA_])) : gb176 ≠ gb188))
   have n9_ := AK_ ((by rw [hg]; exact Nat.ne_of_gt (blk_lt (g := gb176) (o := .cells #[.int .i64 a0_0, .int .u64 a0_1] 24 (0, 0)) (by apply_rules [BK176.out, bN_, bD_, bA_])) : gb188 ≠ gb176))
   have n10_ := AK_ ((by rw [hg]; exact Nat.ne_of_lt (blk_lt (g := gb177) (o := .cells #[.int .i64 a1_0, .int .u64 a1_1] 24 (0, 0)) (by apply_rules [BK177.out, bN_, bD_, bA_])) : gb177 ≠ gb188))
   have n11_ := AK_ ((by rw [hg]; exact Nat.ne_of_gt (blk_lt (g := gb177) (o := .cells #[.int .i64 a1_0, .int .u64 a1_1] 24 (0, 0)) (by apply_rules [BK177.out, bN_, bD_, bA_])) : gb188 ≠ gb177))
   have n12_ := AK_ ((by rw [hg]; exact Nat.ne_of_lt (blk_lt (g := gb178) (o := .cells #[.int .i64 a2_0, .int .u64 a2_1] 24 (0, 0)) (by apply_rules [BK178.out, bN_, bD_, bA_])) : gb178 ≠ gb188))
   have n13_ := AK_ ((by rw [hg]; exact Nat.ne_of_gt (blk_lt (g := gb178) (o := .cells #[.int .i64 a2_0, .int .u64 a2_1] 24 (0, 0)) (by apply_rules [BK178.out, bN_, bD_, bA_])) : gb188 ≠ gb178))
   have n14_ := AK_ ((by rw [hg]; exact Nat.ne_of_lt (blk_lt (g := gb187) (o := .cells #[.int .i64 0, .int .u64 0] 24 (0, 0)) (by apply_rules [BK187.out, bN_, bD_, bA_])) : gb187 ≠ gb188))
   have n15_ := AK_ ((by rw [hg]; exact Nat.ne_of_gt (blk_lt (g := gb187) (o := .cells #[.int .i64 0, .int .u64 0] 24 (0, 0)) (by apply_rules [BK187.out, bN_, bD_, bA_])) : gb188 ≠ gb187))
   clear BK176 BK177 BK178 BK187 HB
   have BK176 := n0_
   have BK177 := n1_
   have BK178 := n2_
   have BK187 := n3_
   have HB := n4_
   have BK188 := n5_
   have GW188 := n6_
   have GE188 := n7_
   have NB176_188 := n8_
   have NB188_176 := n9_
   have NB177_188 := n10_
   have NB188_177 := n11_
   have NB178_188 := n12_
   have NB188_178 := n13_
   have NB187_188 := n14_
   have NB188_187 := n15_
   clear n0_ n1_ n2_ n3_ n4_ n5_ n6_ n7_ n8_ n9_ n10_ n11_ n12_ n13_ n14_ n15_
   clear hb hbox hg
   refine hK.out _ _ ⟨(blk_cell BK176.out 0).trans rfl, (blk_cell BK176.out 1).trans rfl, (blk_cell BK177.out 0).trans rfl, (blk_cell BK177.out 1).trans rfl, (blk_cell BK178.out 0).trans rfl, (blk_cell BK178.out 1).trans rfl⟩ (fun hHeld => ?_)
   clear hK K
   refine norm_ (a' := ?_) ?_ ?_
   rotate_left
   ·show Act.put _ (some 8) _ = _
    simp only [Act.put, List.setIfInBounds_toArray, List.set_cons_zero, List.set_cons_succ, i64_w, i32_w]
    rfl
   exact norm_ (by simp only [putAll, Act.put, List.setIfInBounds_toArray, List.set_cons_zero, List.set_cons_succ] <;> rfl) (hJ2_4_8_9_10_11 (gb187, gb188) _ ⟨hHeld, (by apply_rules [BK176.out, bN_, bD_, bA_]), (by apply_rules [BK177.out, bN_, bD_, bA_]), (by apply_rules [BK178.out, bN_, bD_, bA_]), (by apply_rules [BK187.out, bN_, bD_, bA_]), (by apply_rules [BK188.out, bN_, bD_, bA_]), GW187.out, GE187.out, NB176_187.out, NB187_176.out, NB177_187.out, NB187_177.out, NB178_187.out, NB187_178.out, NB188_187.out, NB187_188.out, GW188.out, GE188.out, NB176_188.out, NB188_176.out, NB177_188.out, NB188_177.out, NB178_188.out, NB188_178.out, (by repeat (first | exact HB.out | apply below_alloc | apply pw_below_drewN | apply below_drew1 | refine below_set ?_ GE176.out | refine below_set ?_ GE177.out | refine below_set ?_ GE178.out | refine below_set ?_ GE187.out | refine below_set ?_ GE188.out))⟩)
 rintro ⟨gb187, gb188⟩ w33 ⟨hS_, h0_, h1_, h2_, h3_, h4_, h5_, h6_, h7_, h8_, h9_, h10_, h11_, h12_, h13_, h14_, h15_, h16_, h17_, h18_, h19_, h20_, h21_, h22_, h23_⟩
 have n0_ : Aside0 (w33.heap[gb176]? = some (.cells #[.int .i64 a0_0, .int .u64 a0_1] 24 (0, 0))) := ⟨h0_⟩
 have n1_ : Aside0 (w33.heap[gb177]? = some (.cells #[.int .i64 a1_0, .int .u64 a1_1] 24 (0, 0))) := ⟨h1_⟩
 have n2_ : Aside0 (w33.heap[gb178]? = some (.cells #[.int .i64 a2_0, .int .u64 a2_1] 24 (0, 0))) := ⟨h2_⟩
 have n3_ : Aside0 (w33.heap[gb187]? = some (.cells #[.int .i64 0, .int .u64 0] 24 (0, 0))) := ⟨h3_⟩
 have n4_ : Aside0 (w33.heap[gb188]? = some (.cells #[.int .i64 0, .int .u64 0] 24 (0, 0))) := ⟨h4_⟩
 have n5_ : Aside0 (w.heap.size ≤ gb187) := ⟨h5_⟩
 have n6_ : Aside0 (w.heap.size ≤ gb187) := ⟨h6_⟩
 have n7_ : Aside0 (gb176 ≠ gb187) := ⟨h7_⟩
 have n8_ : Aside0 (gb187 ≠ gb176) := ⟨h8_⟩
 have n9_ : Aside0 (gb177 ≠ gb187) := ⟨h9_⟩
 have n10_ : Aside0 (gb187 ≠ gb177) := ⟨h10_⟩
 have n11_ : Aside0 (gb178 ≠ gb187) := ⟨h11_⟩
 have n12_ : Aside0 (gb187 ≠ gb178) := ⟨h12_⟩
 have n13_ : Aside0 (gb188 ≠ gb187) := ⟨h13_⟩
 have n14_ : Aside0 (gb187 ≠ gb188) := ⟨h14_⟩
 have n15_ : Aside0 (w.heap.size ≤ gb188) := ⟨h15_⟩
 have n16_ : Aside0 (w.heap.size ≤ gb188) := ⟨h16_⟩
 have n17_ : Aside0 (gb176 ≠ gb188) := ⟨h17_⟩
 have n18_ : Aside0 (gb188 ≠ gb176) := ⟨h18_⟩
 have n19_ : Aside0 (gb177 ≠ gb188) := ⟨h19_⟩
 have n20_ : Aside0 (gb188 ≠ gb177) := ⟨h20_⟩
 have n21_ : Aside0 (gb178 ≠ gb188) := ⟨h21_⟩
 have n22_ : Aside0 (gb188 ≠ gb178) := ⟨h22_⟩
 have n23_ : Aside0 (Below w.heap.size w w33) := ⟨h23_⟩
 clear BK176 BK177 BK178 HB h0_ h1_ h2_ h3_ h4_ h5_ h6_ h7_ h8_ h9_ h10_ h11_ h12_ h13_ h14_ h15_ h16_ h17_ h18_ h19_ h20_ h21_ h22_ h23_
 have BK176 := n0_
 have BK177 := n1_
 have BK178 := n2_
 have BK187 := n3_
 have BK188 := n4_
 have GW187 := n5_
 have GE187 := n6_
 have NB176_187 := n7_
 have NB187_176 := n8_
 have NB177_187 := n9_
 have NB187_177 := n10_
 have NB178_187 := n11_
 have NB187_178 := n12_
 have NB188_187 := n13_
 have NB187_188 := n14_
 have GW188 := n15_
 have GE188 := n16_
 have NB176_188 := n17_
 have NB188_176 := n18_
 have NB177_188 := n19_
 have NB188_177 := n20_
 have NB178_188 := n21_
 have NB188_178 := n22_
 have HB := n23_
 clear n0_ n1_ n2_ n3_ n4_ n5_ n6_ n7_ n8_ n9_ n10_ n11_ n12_ n13_ n14_ n15_ n16_ n17_ n18_ n19_ n20_ n21_ n22_ n23_
 have hHeld : w33.cell? ⟨gb176, 0, none⟩ = some (.int .i64 a0_0) ∧ w33.cell? ⟨gb176, 1, none⟩ = some (.int .u64 a0_1) ∧ w33.cell? ⟨gb177, 0, none⟩ = some (.int .i64 a1_0) ∧ w33.cell? ⟨gb177, 1, none⟩ = some (.int .u64 a1_1) ∧ w33.cell? ⟨gb178, 0, none⟩ = some (.int .i64 a2_0) ∧ w33.cell? ⟨gb178, 1, none⟩ = some (.int .u64 a2_1) := hS_
 refine norm_ (a' := ?_) ?_ ?_
 rotate_left
 ·simp only [putAll, Act.put, List.setIfInBounds_toArray, List.set_cons_zero, List.set_cons_succ]
  rfl
 refine one_ (i := 12) (N := none) #[true, true, true, true, true, true, true, true, true, true, true, true, true, false] rfl rfl (one_of HT_.out (by kernel_rfl)) (by decide) (fun K hK => ?_)
 have hs34 : w33.cell? ⟨gb187, 0, none⟩ = some (.int .i64 0) := (blk_cell BK187.out 0).trans rfl
 have hfs34 := blk_frozen BK187.out 0
 have hns34_0 := NB176_187.out
 have hns34_1 := NB177_187.out
 have hns34_2 := NB178_187.out
 have hns34_4 := NB188_187.out
 have hms34_0 := NB187_176.out
 have hms34_1 := NB187_177.out
 have hms34_2 := NB187_178.out
 have hms34_4 := NB187_188.out
 have hs35 : w33.cell? ⟨gb187, 1, none⟩ = some (.int .u64 0) := (blk_cell BK187.out 1).trans rfl
 have hfs35 := blk_frozen BK187.out 1
 have hns35_0 := NB176_187.out
 have hns35_1 := NB177_187.out
 have hns35_2 := NB178_187.out
 have hns35_4 := NB188_187.out
 have hms35_0 := NB187_176.out
 have hms35_1 := NB187_177.out
 have hms35_2 := NB187_178.out
 have hms35_4 := NB187_188.out
 refine skip_ (w1 := ?_) (by rfl) rfl ?_ ?_
 rotate_left
 ·go_simp
  rfl
 refine hK.out _ _ ⟨((cell_far (p := ⟨gb187, _, none⟩) NB176_187.out _).trans (((cell_far (p := ⟨gb187, _, none⟩) NB176_187.out _).trans (hHeld.1)))), ((cell_far (p := ⟨gb187, _, none⟩) NB176_187.out _).trans (((cell_far (p := ⟨gb187, _, none⟩) NB176_187.out _).trans (hHeld.2.1)))), ((cell_far (p := ⟨gb187, _, none⟩) NB177_187.out _).trans (((cell_far (p := ⟨gb187, _, none⟩) NB177_187.out _).trans (hHeld.2.2.1)))), ((cell_far (p := ⟨gb187, _, none⟩) NB177_187.out _).trans (((cell_far (p := ⟨gb187, _, none⟩) NB177_187.out _).trans (hHeld.2.2.2.1)))), ((cell_far (p := ⟨gb187, _, none⟩) NB178_187.out _).trans (((cell_far (p := ⟨gb187, _, none⟩) NB178_187.out _).trans (hHeld.2.2.2.2.1)))), ((cell_far (p := ⟨gb187, _, none⟩) NB178_187.out _).trans (((cell_far (p := ⟨gb187, _, none⟩) NB178_187.out _).trans (hHeld.2.2.2.2.2))))⟩ (fun hHeld => ?_)
 clear hK K
 refine one_ (i := 13) (N := none) #[true, true, true, true, true, true, true, true, true, true, true, true, true, true] rfl rfl (one_of HT_.out (by kernel_rfl)) (by decide) (fun K hK => ?_)
 have hs36 : w33.cell? ⟨gb188, 0, none⟩ = some (.int .i64 0) := (blk_cell BK188.out 0).trans rfl
 have hfs36 := blk_frozen BK188.out 0
 have hns36_0 := NB176_188.out
 have hns36_1 := NB177_188.out
 have hns36_2 := NB178_188.out
 have hns36_3 := NB187_188.out
 have hms36_0 := NB188_176.out
 have hms36_1 := NB188_177.out
 have hms36_2 := NB188_178.out
 have hms36_3 := NB188_187.out
 have hs37 : w33.cell? ⟨gb188, 1, none⟩ = some (.int .u64 0) := (blk_cell BK188.out 1).trans rfl
 have hfs37 := blk_frozen BK188.out 1
 have hns37_0 := NB176_188.out
 have hns37_1 := NB177_188.out
 have hns37_2 := NB178_188.out
 have hns37_3 := NB187_188.out
 have hms37_0 := NB188_176.out
 have hms37_1 := NB188_177.out
 have hms37_2 := NB188_178.out
 have hms37_3 := NB188_187.out
 refine skip_ (w1 := ?_) (by rfl) rfl ?_ ?_
 rotate_left
 ·go_simp
  rfl
 refine hK.out _ _ ⟨((cell_far (p := ⟨gb188, _, none⟩) NB176_188.out _).trans (((cell_far (p := ⟨gb188, _, none⟩) NB176_188.out _).trans (hHeld.1)))), ((cell_far (p := ⟨gb188, _, none⟩) NB176_188.out _).trans (((cell_far (p := ⟨gb188, _, none⟩) NB176_188.out _).trans (hHeld.2.1)))), ((cell_far (p := ⟨gb188, _, none⟩) NB177_188.out _).trans (((cell_far (p := ⟨gb188, _, none⟩) NB177_188.out _).trans (hHeld.2.2.1)))), ((cell_far (p := ⟨gb188, _, none⟩) NB177_188.out _).trans (((cell_far (p := ⟨gb188, _, none⟩) NB177_188.out _).trans (hHeld.2.2.2.1)))), ((cell_far (p := ⟨gb188, _, none⟩) NB178_188.out _).trans (((cell_far (p := ⟨gb188, _, none⟩) NB178_188.out _).trans (hHeld.2.2.2.2.1)))), ((cell_far (p := ⟨gb188, _, none⟩) NB178_188.out _).trans (((cell_far (p := ⟨gb188, _, none⟩) NB178_188.out _).trans (hHeld.2.2.2.2.2))))⟩ (fun hHeld => ?_)
 clear hK K
 refine done_ (done_of HT_.out (by kernel_rfl)) ?_
 try go_wp2
 have n0_ : Aside0 (((((w33.setCell ⟨gb187, 0, none⟩ (.int .i64 t181)).setCell ⟨gb187, 1, none⟩ (.int .u64 t182)).setCell ⟨gb188, 0, none⟩ (.int .i64 t185)).setCell ⟨gb188, 1, none⟩ (.int .u64 t186)).heap[gb176]? = some (.cells #[.int .i64 a0_0, .int .u64 a0_1] 24 (0, 0))) := ⟨by (with_reducible repeat (first | refine blk_drewN ?_ _ | refine blk_drew ?_ | refine blk_alloc ?_ _)); refine blk_far ?_ NB176_188.out _; (with_reducible repeat (first | refine blk_drewN ?_ _ | refine blk_drew ?_ | refine blk_alloc ?_ _)); refine blk_far ?_ NB176_188.out _; (with_reducible repeat (first | refine blk_drewN ?_ _ | refine blk_drew ?_ | refine blk_alloc ?_ _)); refine blk_far ?_ NB176_187.out _; (with_reducible repeat (first | refine blk_drewN ?_ _ | refine blk_drew ?_ | refine blk_alloc ?_ _)); refine blk_far ?_ NB176_187.out _; (with_reducible repeat (first | refine blk_drewN ?_ _ | refine blk_drew ?_ | refine blk_alloc ?_ _)); exact BK176.out⟩
 have n1_ : Aside0 (((((w33.setCell ⟨gb187, 0, none⟩ (.int .i64 t181)).setCell ⟨gb187, 1, none⟩ (.int .u64 t182)).setCell ⟨gb188, 0, none⟩ (.int .i64 t185)).setCell ⟨gb188, 1, none⟩ (.int .u64 t186)).heap[gb177]? = some (.cells #[.int .i64 a1_0, .int .u64 a1_1] 24 (0, 0))) := ⟨by (with_reducible repeat (first | refine blk_drewN ?_ _ | refine blk_drew ?_ | refine blk_alloc ?_ _)); refine blk_far ?_ NB177_188.out _; (with_reducible repeat (first | refine blk_drewN ?_ _ | refine blk_drew ?_ | refine blk_alloc ?_ _)); refine blk_far ?_ NB177_188.out _; (with_reducible repeat (first | refine blk_drewN ?_ _ | refine blk_drew ?_ | refine blk_alloc ?_ _)); refine blk_far ?_ NB177_187.out _; (with_reducible repeat (first | refine blk_drewN ?_ _ | refine blk_drew ?_ | refine blk_alloc ?_ _)); refine blk_far ?_ NB177_187.out _; (with_reducible repeat (first | refine blk_drewN ?_ _ | refine blk_drew ?_ | refine blk_alloc ?_ _)); exact BK177.out⟩
 have n2_ : Aside0 (((((w33.setCell ⟨gb187, 0, none⟩ (.int .i64 t181)).setCell ⟨gb187, 1, none⟩ (.int .u64 t182)).setCell ⟨gb188, 0, none⟩ (.int .i64 t185)).setCell ⟨gb188, 1, none⟩ (.int .u64 t186)).heap[gb178]? = some (.cells #[.int .i64 a2_0, .int .u64 a2_1] 24 (0, 0))) := ⟨by (with_reducible repeat (first | refine blk_drewN ?_ _ | refine blk_drew ?_ | refine blk_alloc ?_ _)); refine blk_far ?_ NB178_188.out _; (with_reducible repeat (first | refine blk_drewN ?_ _ | refine blk_drew ?_ | refine blk_alloc ?_ _)); refine blk_far ?_ NB178_188.out _; (with_reducible repeat (first | refine blk_drewN ?_ _ | refine blk_drew ?_ | refine blk_alloc ?_ _)); refine blk_far ?_ NB178_187.out _; (with_reducible repeat (first | refine blk_drewN ?_ _ | refine blk_drew ?_ | refine blk_alloc ?_ _)); refine blk_far ?_ NB178_187.out _; (with_reducible repeat (first | refine blk_drewN ?_ _ | refine blk_drew ?_ | refine blk_alloc ?_ _)); exact BK178.out⟩
 have n3_ : Aside0 (((((w33.setCell ⟨gb187, 0, none⟩ (.int .i64 t181)).setCell ⟨gb187, 1, none⟩ (.int .u64 t182)).setCell ⟨gb188, 0, none⟩ (.int .i64 t185)).setCell ⟨gb188, 1, none⟩ (.int .u64 t186)).heap[gb187]? = some (.cells #[.int .i64 t181, .int .u64 t182] 24 (0, 0))) := ⟨by (with_reducible repeat (first | refine blk_drewN ?_ _ | refine blk_drew ?_ | refine blk_alloc ?_ _)); refine blk_far ?_ NB187_188.out _; (with_reducible repeat (first | refine blk_drewN ?_ _ | refine blk_drew ?_ | refine blk_alloc ?_ _)); refine blk_far ?_ NB187_188.out _; (with_reducible repeat (first | refine blk_drewN ?_ _ | refine blk_drew ?_ | refine blk_alloc ?_ _)); refine blk_put (cs := #[.int .i64 t181, .int .u64 0]) ?_ 1 _ rfl; (with_reducible repeat (first | refine blk_drewN ?_ _ | refine blk_drew ?_ | refine blk_alloc ?_ _)); refine blk_put (cs := #[.int .i64 0, .int .u64 0]) ?_ 0 _ rfl; (with_reducible repeat (first | refine blk_drewN ?_ _ | refine blk_drew ?_ | refine blk_alloc ?_ _)); exact BK187.out⟩
 have n4_ : Aside0 (((((w33.setCell ⟨gb187, 0, none⟩ (.int .i64 t181)).setCell ⟨gb187, 1, none⟩ (.int .u64 t182)).setCell ⟨gb188, 0, none⟩ (.int .i64 t185)).setCell ⟨gb188, 1, none⟩ (.int .u64 t186)).heap[gb188]? = some (.cells #[.int .i64 t185, .int .u64 t186] 24 (0, 0))) := ⟨by (with_reducible repeat (first | refine blk_drewN ?_ _ | refine blk_drew ?_ | refine blk_alloc ?_ _)); refine blk_put (cs := #[.int .i64 t185, .int .u64 0]) ?_ 1 _ rfl; (with_reducible repeat (first | refine blk_drewN ?_ _ | refine blk_drew ?_ | refine blk_alloc ?_ _)); refine blk_put (cs := #[.int .i64 0, .int .u64 0]) ?_ 0 _ rfl; (with_reducible repeat (first | refine blk_drewN ?_ _ | refine blk_drew ?_ | refine blk_alloc ?_ _)); refine blk_far ?_ NB188_187.out _; (with_reducible repeat (first | refine blk_drewN ?_ _ | refine blk_drew ?_ | refine blk_alloc ?_ _)); refine blk_far ?_ NB188_187.out _; (with_reducible repeat (first | refine blk_drewN ?_ _ | refine blk_drew ?_ | refine blk_alloc ?_ _)); exact BK188.out⟩
 have n5_ : Aside0 (Below w.heap.size w ((((w33.setCell ⟨gb187, 0, none⟩ (.int .i64 t181)).setCell ⟨gb187, 1, none⟩ (.int .u64 t182)).setCell ⟨gb188, 0, none⟩ (.int .i64 t185)).setCell ⟨gb188, 1, none⟩ (.int .u64 t186))) := ⟨by repeat (first | exact HB.out | apply below_alloc | apply pw_below_drewN | apply below_drew1 | refine below_set ?_ GE176.out | refine below_set ?_ GE177.out | refine below_set ?_ GE178.out | refine below_set ?_ GE187.out | refine below_set ?_ GE188.out)⟩
 (try clear BK176)
 (try clear BK177)
 (try clear BK178)
 (try clear BK187)
 (try clear BK188)
 (try clear HB)
 generalize ((((w33.setCell ⟨gb187, 0, none⟩ (.int .i64 t181)).setCell ⟨gb187, 1, none⟩ (.int .u64 t182)).setCell ⟨gb188, 0, none⟩ (.int .i64 t185)).setCell ⟨gb188, 1, none⟩ (.int .u64 t186)) = w38 at n0_ n1_ n2_ n3_ n4_ n5_ ⊢
 have BK176 := n0_
 have BK177 := n1_
 have BK178 := n2_
 have BK187 := n3_
 have BK188 := n4_
 have HB := n5_
 clear n0_ n1_ n2_ n3_ n4_ n5_
 have n0_ := AK_ (blk_drew BK176.out)
 have n1_ := AK_ (blk_drew BK177.out)
 have n2_ := AK_ (blk_drew BK178.out)
 have n3_ := AK_ (blk_drew BK187.out)
 have n4_ := AK_ (blk_drew BK188.out)
 have n5_ := AK_ (below_drew1 HB.out)
 clear BK176 BK177 BK178 BK187 BK188 HB
 have BK176 := n0_
 have BK177 := n1_
 have BK178 := n2_
 have BK187 := n3_
 have BK188 := n4_
 have HB := n5_
 clear n0_ n1_ n2_ n3_ n4_ n5_
 refine start_ (n := 40) (S := fun w' => w'.cell? ⟨gb187, 0, none⟩ = some (.int .i64 t181) ∧ w'.cell? ⟨gb187, 1, none⟩ = some (.int .u64 t182) ∧ w'.cell? ⟨gb188, 0, none⟩ = some (.int .i64 t185) ∧ w'.cell? ⟨gb188, 1, none⟩ = some (.int .u64 t186) ∧ w'.cell? ⟨gb176, 0, none⟩ = some (.int .i64 a0_0) ∧ w'.cell? ⟨gb176, 1, none⟩ = some (.int .u64 a0_1) ∧ w'.cell? ⟨gb177, 0, none⟩ = some (.int .i64 a1_0) ∧ w'.cell? ⟨gb177, 1, none⟩ = some (.int .u64 a1_1)) (ds := []) #[false, false, false, false, false, false, false, false, false, false, false, false, false, false, false, false, false, false, false, false, false, false, false, false, false, false, false, false, false, false, false, false, false, false, false, false, false, false, false, false] (by kernel_rfl) rfl rfl ⟨(blk_cell BK187.out 0).trans rfl, (blk_cell BK187.out 1).trans rfl, (blk_cell BK188.out 0).trans rfl, (blk_cell BK188.out 1).trans rfl, (blk_cell BK176.out 0).trans rfl, (blk_cell BK176.out 1).trans rfl, (blk_cell BK177.out 0).trans rfl, (blk_cell BK177.out 1).trans rfl⟩ (fun hHeld => ?_); refine with_tabW rickyardlaw01_WideRing.tab2 rickyardlaw01_WideRing.bits2 (fun HT_ HW_ => ?_)
 generalize w38.drew = w39 at BK176 BK177 BK178 BK187 BK188 HB hHeld ⊢
 refine one_ (i := 0) (N := some 19) #[true, false, false, false, false, false, false, false, false, false, false, false, false, false, false, false, false, false, false, false, false, false, false, false, false, false, false, false, false, false, false, false, false, false, false, false, false, false, false, false] rfl rfl (one_of HT_.out (by kernel_rfl)) (by decide) (fun K hK => ?_)
 refine goes_ Try.func12 (by kernel_rfl) rfl #[] (by rfl) rfl rfl (by (try simp only [List.map_toArray, List.map_cons, List.map_nil]); first | done | rfl | (simp only [List.length_drop, List.length_take]; rfl)) ?_
 with_reducible refine (rickyardlaw01_alive.calls k  true _ A8.out).mono ?_
 rintro e w40 ⟨rfl, hb⟩
 refine ⟨_, rfl, ?_⟩
 have n0_ := AK_ (blk_below (by apply_rules [BK176.out, bN_, bD_, bA_]) hb)
 have n1_ := AK_ (blk_below (by apply_rules [BK177.out, bN_, bD_, bA_]) hb)
 have n2_ := AK_ (blk_below (by apply_rules [BK178.out, bN_, bD_, bA_]) hb)
 have n3_ := AK_ (blk_below (by apply_rules [BK187.out, bN_, bD_, bA_]) hb)
 have n4_ := AK_ (blk_below (by apply_rules [BK188.out, bN_, bD_, bA_]) hb)
 have n5_ := AK_ (below_step (by repeat (first | exact HB.out | apply below_alloc | apply pw_below_drewN | apply below_drew1 | refine below_set ?_ GE176.out | refine below_set ?_ GE177.out | refine below_set ?_ GE178.out | refine below_set ?_ GE187.out | refine below_set ?_ GE188.out)) hb)
 clear BK176 BK177 BK178 BK187 BK188 HB
 have BK176 := n0_
 have BK177 := n1_
 have BK178 := n2_
 have BK187 := n3_
 have BK188 := n4_
 have HB := n5_
 clear n0_ n1_ n2_ n3_ n4_ n5_
 (try clear hb)
 (try clear hb2)
 (try clear hk)
 (try clear hi)
 refine hK.out _ _ ⟨(blk_cell BK187.out 0).trans rfl, (blk_cell BK187.out 1).trans rfl, (blk_cell BK188.out 0).trans rfl, (blk_cell BK188.out 1).trans rfl, (blk_cell BK176.out 0).trans rfl, (blk_cell BK176.out 1).trans rfl, (blk_cell BK177.out 0).trans rfl, (blk_cell BK177.out 1).trans rfl⟩ (fun hHeld => ?_)
 clear hK K
 refine norm_ (a' := ?_) ?_ ?_
 rotate_left
 ·show Act.put _ (some 19) _ = _
  simp only [Act.put, List.setIfInBounds_toArray, List.set_cons_zero, List.set_cons_succ, i64_w, i32_w]
  rfl
 refine pure_ (i := 1) (N := some 20) (v := ?_) (a' := ?_) #[true, true, false, false, false, false, false, false, false, false, false, false, false, false, false, false, false, false, false, false, false, false, false, false, false, false, false, false, false, false, false, false, false, false, false, false, false, false, false, false] rfl rfl (any_of HT_.out (by kernel_rfl)) (fun _ _ _ h => h) (Or.inl ⟨by rfl, ?_⟩) ?_ ?_
 rotate_left
 ·intro w'
  go_simp
  with_reducible rfl
 rotate_left
 ·simp only [Act.put, List.setIfInBounds_toArray, List.set_cons_zero, List.set_cons_succ, i64_w, i32_w]
  rfl
 refine take_ (i := 2) (N := some 21) (v := ?_) (a' := ?_) #[true, true, true, false, false, false, false, false, false, false, false, false, false, false, false, false, false, false, false, false, false, false, false, false, false, false, false, false, false, false, false, false, false, false, false, false, false, false, false, false] rfl rfl (take_ofW HT_.out HW_.out (by kernel_rfl)) (fun _ _ _ h => h) (Or.inl ⟨by rfl, ?_⟩) hHeld ?_ ?_
 rotate_left
 ·rintro w' ⟨s0, s1, s2, s3, s4, s5, s6, s7⟩
  go_simp
  with_reducible rfl
 rotate_left
 ·simp only [Act.put, List.setIfInBounds_toArray, List.set_cons_zero, List.set_cons_succ, i64_w, i32_w]
  rfl
 refine take_ (i := 3) (N := some 22) (v := ?_) (a' := ?_) #[true, true, true, true, false, false, false, false, false, false, false, false, false, false, false, false, false, false, false, false, false, false, false, false, false, false, false, false, false, false, false, false, false, false, false, false, false, false, false, false] rfl rfl (take_ofW HT_.out HW_.out (by kernel_rfl)) (fun _ _ _ h => h) (Or.inl ⟨by rfl, ?_⟩) hHeld ?_ ?_
 rotate_left
 ·rintro w' ⟨s0, s1, s2, s3, s4, s5, s6, s7⟩
  go_simp
  with_reducible rfl
 rotate_left
 ·simp only [Act.put, List.setIfInBounds_toArray, List.set_cons_zero, List.set_cons_succ, i64_w, i32_w]
  rfl
 refine pure_ (i := 4) (N := some 23) (v := ?_) (a' := ?_) #[true, true, true, true, true, false, false, false, false, false, false, false, false, false, false, false, false, false, false, false, false, false, false, false, false, false, false, false, false, false, false, false, false, false, false, false, false, false, false, false] rfl rfl (any_of HT_.out (by kernel_rfl)) (fun _ _ _ h => h) (Or.inl ⟨by rfl, ?_⟩) ?_ ?_
 rotate_left
 ·intro w'
  go_simp
  with_reducible rfl
 rotate_left
 ·simp only [Act.put, List.setIfInBounds_toArray, List.set_cons_zero, List.set_cons_succ, i64_w, i32_w]
  rfl
 refine pure_ (i := 5) (N := some 24) (v := ?_) (a' := ?_) #[true, true, true, true, true, true, false, false, false, false, false, false, false, false, false, false, false, false, false, false, false, false, false, false, false, false, false, false, false, false, false, false, false, false, false, false, false, false, false, false] rfl rfl (any_of HT_.out (by kernel_rfl)) (fun _ _ _ h => h) (Or.inl ⟨by rfl, ?_⟩) ?_ ?_
 rotate_left
 ·intro w'
  go_simp
  with_reducible rfl
 rotate_left
 ·simp only [Act.put, List.setIfInBounds_toArray, List.set_cons_zero, List.set_cons_succ, i64_w, i32_w]
  rfl
 refine pure_ (i := 6) (N := some 25) (v := ?_) (a' := ?_) #[true, true, true, true, true, true, true, false, false, false, false, false, false, false, false, false, false, false, false, false, false, false, false, false, false, false, false, false, false, false, false, false, false, false, false, false, false, false, false, false] rfl rfl (any_of HT_.out (by kernel_rfl)) (fun _ _ _ h => h) (Or.inl ⟨by rfl, ?_⟩) ?_ ?_
 rotate_left
 ·intro w'
  go_simp
  with_reducible rfl
 rotate_left
 ·simp only [Act.put, List.setIfInBounds_toArray, List.set_cons_zero, List.set_cons_succ, i64_w, i32_w]
  rfl
 refine take_ (i := 7) (N := some 26) (v := ?_) (a' := ?_) #[true, true, true, true, true, true, true, true, false, false, false, false, false, false, false, false, false, false, false, false, false, false, false, false, false, false, false, false, false, false, false, false, false, false, false, false, false, false, false, false] rfl rfl (take_ofW HT_.out HW_.out (by kernel_rfl)) (fun _ _ _ h => h) (Or.inl ⟨by rfl, ?_⟩) hHeld ?_ ?_
 rotate_left
 ·rintro w' ⟨s0, s1, s2, s3, s4, s5, s6, s7⟩
  go_simp
  with_reducible rfl
 rotate_left
 ·simp only [Act.put, List.setIfInBounds_toArray, List.set_cons_zero, List.set_cons_succ, i64_w, i32_w]
  rfl
 refine take_ (i := 8) (N := some 27) (v := ?_) (a' := ?_) #[true, true, true, true, true, true, true, true, true, false, false, false, false, false, false, false, false, false, false, false, false, false, false, false, false, false, false, false, false, false, false, false, false, false, false, false, false, false, false, false] rfl rfl (take_ofW HT_.out HW_.out (by kernel_rfl)) (fun _ _ _ h => h) (Or.inl ⟨by rfl, ?_⟩) hHeld ?_ ?_
 rotate_left
 ·rintro w' ⟨s0, s1, s2, s3, s4, s5, s6, s7⟩
  go_simp
  with_reducible rfl
 rotate_left
 ·simp only [Act.put, List.setIfInBounds_toArray, List.set_cons_zero, List.set_cons_succ, i64_w, i32_w]
  rfl
 refine take_ (i := 10) (N := some 29) (v := ?_) (a' := ?_) #[true, true, true, true, true, true, true, true, true, false, true, false, false, false, false, false, false, false, false, false, false, false, false, false, false, false, false, false, false, false, false, false, false, false, false, false, false, false, false, false] rfl rfl (take_ofW HT_.out HW_.out (by kernel_rfl)) (fun _ _ _ h => h) (Or.inl ⟨by rfl, ?_⟩) hHeld ?_ ?_
 rotate_left
 ·rintro w' ⟨s0, s1, s2, s3, s4, s5, s6, s7⟩
  go_simp
  with_reducible rfl
 rotate_left
 ·simp only [Act.put, List.setIfInBounds_toArray, List.set_cons_zero, List.set_cons_succ, i64_w, i32_w]
  rfl
 refine take_ (i := 11) (N := some 30) (v := ?_) (a' := ?_) #[true, true, true, true, true, true, true, true, true, false, true, true, false, false, false, false, false, false, false, false, false, false, false, false, false, false, false, false, false, false, false, false, false, false, false, false, false, false, false, false] rfl rfl (take_ofW HT_.out HW_.out (by kernel_rfl)) (fun _ _ _ h => h) (Or.inl ⟨by rfl, ?_⟩) hHeld ?_ ?_
 rotate_left
 ·rintro w' ⟨s0, s1, s2, s3, s4, s5, s6, s7⟩
  go_simp
  with_reducible rfl
 rotate_left
 ·simp only [Act.put, List.setIfInBounds_toArray, List.set_cons_zero, List.set_cons_succ, i64_w, i32_w]
  rfl
 refine one_ (i := 9) (N := some 28) #[true, true, true, true, true, true, true, true, true, true, true, true, false, false, false, false, false, false, false, false, false, false, false, false, false, false, false, false, false, false, false, false, false, false, false, false, false, false, false, false] rfl rfl (one_of HT_.out (by kernel_rfl)) (by decide) (fun K hK => ?_)
 refine goes_ Try.func21 (by kernel_rfl) rfl #[.agg #[.int .i64 a0_0, .int .u64 a0_1], .agg #[.int .i64 a1_0, .int .u64 a1_1]] (by rfl) rfl rfl (by (try simp only [List.map_toArray, List.map_cons, List.map_nil]); first | done | rfl | (simp only [List.length_drop, List.length_take]; rfl)) ?_
 with_reducible refine (wide_Add.calls a0_0 a0_1 a1_0 a1_1 t190 t191 _ A11.out).mono ?_
 rintro e w41 ⟨rfl, hb⟩
 refine ⟨_, rfl, ?_⟩
 have n0_ := AK_ (blk_below (by apply_rules [BK176.out, bN_, bD_, bA_]) hb)
 have n1_ := AK_ (blk_below (by apply_rules [BK177.out, bN_, bD_, bA_]) hb)
 have n2_ := AK_ (blk_below (by apply_rules [BK178.out, bN_, bD_, bA_]) hb)
 have n3_ := AK_ (blk_below (by apply_rules [BK187.out, bN_, bD_, bA_]) hb)
 have n4_ := AK_ (blk_below (by apply_rules [BK188.out, bN_, bD_, bA_]) hb)
 have n5_ := AK_ (below_step (by repeat (first | exact HB.out | apply below_alloc | apply pw_below_drewN | apply below_drew1 | refine below_set ?_ GE176.out | refine below_set ?_ GE177.out | refine below_set ?_ GE178.out | refine below_set ?_ GE187.out | refine below_set ?_ GE188.out)) hb)
 clear BK176 BK177 BK178 BK187 BK188 HB
 have BK176 := n0_
 have BK177 := n1_
 have BK178 := n2_
 have BK187 := n3_
 have BK188 := n4_
 have HB := n5_
 clear n0_ n1_ n2_ n3_ n4_ n5_
 (try clear hb)
 (try clear hb2)
 (try clear hk)
 (try clear hi)
 refine hK.out _ _ ⟨(blk_cell BK187.out 0).trans rfl, (blk_cell BK187.out 1).trans rfl, (blk_cell BK188.out 0).trans rfl, (blk_cell BK188.out 1).trans rfl, (blk_cell BK176.out 0).trans rfl, (blk_cell BK176.out 1).trans rfl, (blk_cell BK177.out 0).trans rfl, (blk_cell BK177.out 1).trans rfl⟩ (fun hHeld => ?_)
 clear hK K
 refine norm_ (a' := ?_) ?_ ?_
 rotate_left
 ·show Act.put _ (some 28) _ = _
  simp only [Act.put, List.setIfInBounds_toArray, List.set_cons_zero, List.set_cons_succ, i64_w, i32_w]
  rfl
 refine one_ (i := 12) (N := some 31) #[true, true, true, true, true, true, true, true, true, true, true, true, true, false, false, false, false, false, false, false, false, false, false, false, false, false, false, false, false, false, false, false, false, false, false, false, false, false, false, false] rfl rfl (one_of HT_.out (by kernel_rfl)) (by decide) (fun K hK => ?_)
 refine goes_ Try.func21 (by kernel_rfl) rfl #[.agg #[.int .i64 a1_0, .int .u64 a1_1], .agg #[.int .i64 a0_0, .int .u64 a0_1]] (by rfl) rfl rfl (by (try simp only [List.map_toArray, List.map_cons, List.map_nil]); first | done | rfl | (simp only [List.length_drop, List.length_take]; rfl)) ?_
 with_reducible refine (wide_Add.calls a1_0 a1_1 a0_0 a0_1 t192 t193 _ A12.out).mono ?_
 rintro e w42 ⟨rfl, hb⟩
 refine ⟨_, rfl, ?_⟩
 have n0_ := AK_ (blk_below (by apply_rules [BK176.out, bN_, bD_, bA_]) hb)
 have n1_ := AK_ (blk_below (by apply_rules [BK177.out, bN_, bD_, bA_]) hb)
 have n2_ := AK_ (blk_below (by apply_rules [BK178.out, bN_, bD_, bA_]) hb)
 have n3_ := AK_ (blk_below (by apply_rules [BK187.out, bN_, bD_, bA_]) hb)
 have n4_ := AK_ (blk_below (by apply_rules [BK188.out, bN_, bD_, bA_]) hb)
 have n5_ := AK_ (below_step (by repeat (first | exact HB.out | apply below_alloc | apply pw_below_drewN | apply below_drew1 | refine below_set ?_ GE176.out | refine below_set ?_ GE177.out | refine below_set ?_ GE178.out | refine below_set ?_ GE187.out | refine below_set ?_ GE188.out)) hb)
 clear BK176 BK177 BK178 BK187 BK188 HB
 have BK176 := n0_
 have BK177 := n1_
 have BK178 := n2_
 have BK187 := n3_
 have BK188 := n4_
 have HB := n5_
 clear n0_ n1_ n2_ n3_ n4_ n5_
 (try clear hb)
 (try clear hb2)
 (try clear hk)
 (try clear hi)
 refine hK.out _ _ ⟨(blk_cell BK187.out 0).trans rfl, (blk_cell BK187.out 1).trans rfl, (blk_cell BK188.out 0).trans rfl, (blk_cell BK188.out 1).trans rfl, (blk_cell BK176.out 0).trans rfl, (blk_cell BK176.out 1).trans rfl, (blk_cell BK177.out 0).trans rfl, (blk_cell BK177.out 1).trans rfl⟩ (fun hHeld => ?_)
 clear hK K
 refine norm_ (a' := ?_) ?_ ?_
 rotate_left
 ·show Act.put _ (some 31) _ = _
  simp only [Act.put, List.setIfInBounds_toArray, List.set_cons_zero, List.set_cons_succ, i64_w, i32_w]
  rfl
 refine pure_ (i := 13) (N := some 32) (v := ?_) (a' := ?_) #[true, true, true, true, true, true, true, true, true, true, true, true, true, true, false, false, false, false, false, false, false, false, false, false, false, false, false, false, false, false, false, false, false, false, false, false, false, false, false, false] rfl rfl (any_of HT_.out (by kernel_rfl)) (fun _ _ _ h => h) (Or.inl ⟨by rfl, ?_⟩) ?_ ?_
 rotate_left
 ·intro w'
  go_simp
  with_reducible rfl
 rotate_left
 ·simp only [Act.put, List.setIfInBounds_toArray, List.set_cons_zero, List.set_cons_succ, i64_w, i32_w]
  rfl
 refine pure_ (i := 14) (N := some 33) (v := ?_) (a' := ?_) #[true, true, true, true, true, true, true, true, true, true, true, true, true, true, true, false, false, false, false, false, false, false, false, false, false, false, false, false, false, false, false, false, false, false, false, false, false, false, false, false] rfl rfl (any_of HT_.out (by kernel_rfl)) (fun _ _ _ h => h) (Or.inl ⟨by rfl, ?_⟩) ?_ ?_
 rotate_left
 ·intro w'
  go_simp
  with_reducible rfl
 rotate_left
 ·simp only [Act.put, List.setIfInBounds_toArray, List.set_cons_zero, List.set_cons_succ, i64_w, i32_w]
  rfl
 refine pure_ (i := 15) (N := some 34) (v := ?_) (a' := ?_) #[true, true, true, true, true, true, true, true, true, true, true, true, true, true, true, true, false, false, false, false, false, false, false, false, false, false, false, false, false, false, false, false, false, false, false, false, false, false, false, false] rfl rfl (any_of HT_.out (by kernel_rfl)) (fun _ _ _ h => h) (Or.inl ⟨by rfl, ?_⟩) ?_ ?_
 rotate_left
 ·intro w'
  go_simp
  with_reducible rfl
 rotate_left
 ·simp only [Act.put, List.setIfInBounds_toArray, List.set_cons_zero, List.set_cons_succ, i64_w, i32_w]
  rfl
 refine take_ (i := 16) (N := some 35) (v := ?_) (a' := ?_) #[true, true, true, true, true, true, true, true, true, true, true, true, true, true, true, true, true, false, false, false, false, false, false, false, false, false, false, false, false, false, false, false, false, false, false, false, false, false, false, false] rfl rfl (take_ofW HT_.out HW_.out (by kernel_rfl)) (fun _ _ _ h => h) (Or.inl ⟨by rfl, ?_⟩) hHeld ?_ ?_
 rotate_left
 ·rintro w' ⟨s0, s1, s2, s3, s4, s5, s6, s7⟩
  go_simp
  with_reducible rfl
 rotate_left
 ·simp only [Act.put, List.setIfInBounds_toArray, List.set_cons_zero, List.set_cons_succ, i64_w, i32_w]
  rfl
 refine take_ (i := 17) (N := some 36) (v := ?_) (a' := ?_) #[true, true, true, true, true, true, true, true, true, true, true, true, true, true, true, true, true, true, false, false, false, false, false, false, false, false, false, false, false, false, false, false, false, false, false, false, false, false, false, false] rfl rfl (take_ofW HT_.out HW_.out (by kernel_rfl)) (fun _ _ _ h => h) (Or.inl ⟨by rfl, ?_⟩) hHeld ?_ ?_
 rotate_left
 ·rintro w' ⟨s0, s1, s2, s3, s4, s5, s6, s7⟩
  go_simp
  with_reducible rfl
 rotate_left
 ·simp only [Act.put, List.setIfInBounds_toArray, List.set_cons_zero, List.set_cons_succ, i64_w, i32_w]
  rfl
 refine take_ (i := 19) (N := some 38) (v := ?_) (a' := ?_) #[true, true, true, true, true, true, true, true, true, true, true, true, true, true, true, true, true, true, false, true, false, false, false, false, false, false, false, false, false, false, false, false, false, false, false, false, false, false, false, false] rfl rfl (take_ofW HT_.out HW_.out (by kernel_rfl)) (fun _ _ _ h => h) (Or.inl ⟨by rfl, ?_⟩) hHeld ?_ ?_
 rotate_left
 ·rintro w' ⟨s0, s1, s2, s3, s4, s5, s6, s7⟩
  go_simp
  with_reducible rfl
 rotate_left
 ·simp only [Act.put, List.setIfInBounds_toArray, List.set_cons_zero, List.set_cons_succ, i64_w, i32_w]
  rfl
 refine take_ (i := 22) (N := some 41) (v := ?_) (a' := ?_) #[true, true, true, true, true, true, true, true, true, true, true, true, true, true, true, true, true, true, false, true, false, false, true, false, false, false, false, false, false, false, false, false, false, false, false, false, false, false, false, false] rfl rfl (take_ofW HT_.out HW_.out (by kernel_rfl)) (fun _ _ _ h => h) (Or.inl ⟨by rfl, ?_⟩) hHeld ?_ ?_
 rotate_left
 ·rintro w' ⟨s0, s1, s2, s3, s4, s5, s6, s7⟩
  go_simp
  with_reducible rfl
 rotate_left
 ·simp only [Act.put, List.setIfInBounds_toArray, List.set_cons_zero, List.set_cons_succ, i64_w, i32_w]
  rfl
 refine one_ (i := 18) (N := some 37) #[true, true, true, true, true, true, true, true, true, true, true, true, true, true, true, true, true, true, true, true, false, false, true, false, false, false, false, false, false, false, false, false, false, false, false, false, false, false, false, false] rfl rfl (one_of HT_.out (by kernel_rfl)) (by decide) (fun K hK => ?_)
 refine goes_ Try.func21 (by kernel_rfl) rfl #[.agg #[.int .i64 a0_0, .int .u64 a0_1], .agg #[.int .i64 a1_0, .int .u64 a1_1]] (by rfl) rfl rfl (by (try simp only [List.map_toArray, List.map_cons, List.map_nil]); first | done | rfl | (simp only [List.length_drop, List.length_take]; rfl)) ?_
 with_reducible refine (wide_Add.calls a0_0 a0_1 a1_0 a1_1 t194 t195 _ A14.out).mono ?_
 rintro e w43 ⟨rfl, hb⟩
 refine ⟨_, rfl, ?_⟩
 have n0_ := AK_ (blk_below (by apply_rules [BK176.out, bN_, bD_, bA_]) hb)
 have n1_ := AK_ (blk_below (by apply_rules [BK177.out, bN_, bD_, bA_]) hb)
 have n2_ := AK_ (blk_below (by apply_rules [BK178.out, bN_, bD_, bA_]) hb)
 have n3_ := AK_ (blk_below (by apply_rules [BK187.out, bN_, bD_, bA_]) hb)
 have n4_ := AK_ (blk_below (by apply_rules [BK188.out, bN_, bD_, bA_]) hb)
 have n5_ := AK_ (below_step (by repeat (first | exact HB.out | apply below_alloc | apply pw_below_drewN | apply below_drew1 | refine below_set ?_ GE176.out | refine below_set ?_ GE177.out | refine below_set ?_ GE178.out | refine below_set ?_ GE187.out | refine below_set ?_ GE188.out)) hb)
 clear BK176 BK177 BK178 BK187 BK188 HB
 have BK176 := n0_
 have BK177 := n1_
 have BK178 := n2_
 have BK187 := n3_
 have BK188 := n4_
 have HB := n5_
 clear n0_ n1_ n2_ n3_ n4_ n5_
 (try clear hb)
 (try clear hb2)
 (try clear hk)
 (try clear hi)
 refine hK.out _ _ ⟨(blk_cell BK187.out 0).trans rfl, (blk_cell BK187.out 1).trans rfl, (blk_cell BK188.out 0).trans rfl, (blk_cell BK188.out 1).trans rfl, (blk_cell BK176.out 0).trans rfl, (blk_cell BK176.out 1).trans rfl, (blk_cell BK177.out 0).trans rfl, (blk_cell BK177.out 1).trans rfl⟩ (fun hHeld => ?_)
 clear hK K
 refine norm_ (a' := ?_) ?_ ?_
 rotate_left
 ·show Act.put _ (some 37) _ = _
  simp only [Act.put, List.setIfInBounds_toArray, List.set_cons_zero, List.set_cons_succ, i64_w, i32_w]
  rfl
 refine one_ (i := 20) (N := some 39) #[true, true, true, true, true, true, true, true, true, true, true, true, true, true, true, true, true, true, true, true, true, false, true, false, false, false, false, false, false, false, false, false, false, false, false, false, false, false, false, false] rfl rfl (one_of HT_.out (by kernel_rfl)) (by decide) (fun K hK => ?_)
 refine goes_ Try.func23 (by kernel_rfl) rfl #[.agg #[.int .i64 a1_0, .int .u64 a1_1]] (by rfl) rfl rfl (by (try simp only [List.map_toArray, List.map_cons, List.map_nil]); first | done | rfl | (simp only [List.length_drop, List.length_take]; rfl)) ?_
 with_reducible refine (wide_Minus.calls a1_0 a1_1 t196 t197 _ A15.out).mono ?_
 rintro e w44 ⟨rfl, hb⟩
 refine ⟨_, rfl, ?_⟩
 have n0_ := AK_ (blk_below (by apply_rules [BK176.out, bN_, bD_, bA_]) hb)
 have n1_ := AK_ (blk_below (by apply_rules [BK177.out, bN_, bD_, bA_]) hb)
 have n2_ := AK_ (blk_below (by apply_rules [BK178.out, bN_, bD_, bA_]) hb)
 have n3_ := AK_ (blk_below (by apply_rules [BK187.out, bN_, bD_, bA_]) hb)
 have n4_ := AK_ (blk_below (by apply_rules [BK188.out, bN_, bD_, bA_]) hb)
 have n5_ := AK_ (below_step (by repeat (first | exact HB.out | apply below_alloc | apply pw_below_drewN | apply below_drew1 | refine below_set ?_ GE176.out | refine below_set ?_ GE177.out | refine below_set ?_ GE178.out | refine below_set ?_ GE187.out | refine below_set ?_ GE188.out)) hb)
 clear BK176 BK177 BK178 BK187 BK188 HB
 have BK176 := n0_
 have BK177 := n1_
 have BK178 := n2_
 have BK187 := n3_
 have BK188 := n4_
 have HB := n5_
 clear n0_ n1_ n2_ n3_ n4_ n5_
 (try clear hb)
 (try clear hb2)
 (try clear hk)
 (try clear hi)
 refine hK.out _ _ ⟨(blk_cell BK187.out 0).trans rfl, (blk_cell BK187.out 1).trans rfl, (blk_cell BK188.out 0).trans rfl, (blk_cell BK188.out 1).trans rfl, (blk_cell BK176.out 0).trans rfl, (blk_cell BK176.out 1).trans rfl, (blk_cell BK177.out 0).trans rfl, (blk_cell BK177.out 1).trans rfl⟩ (fun hHeld => ?_)
 clear hK K
 refine norm_ (a' := ?_) ?_ ?_
 rotate_left
 ·show Act.put _ (some 39) _ = _
  simp only [Act.put, List.setIfInBounds_toArray, List.set_cons_zero, List.set_cons_succ, i64_w, i32_w]
  rfl
 refine one_ (i := 21) (N := some 40) #[true, true, true, true, true, true, true, true, true, true, true, true, true, true, true, true, true, true, true, true, true, true, true, false, false, false, false, false, false, false, false, false, false, false, false, false, false, false, false, false] rfl rfl (one_of HT_.out (by kernel_rfl)) (by decide) (fun K hK => ?_)
 refine goes_ Try.func21 (by kernel_rfl) rfl #[.agg #[.int .i64 t194, .int .u64 t195], .agg #[.int .i64 t196, .int .u64 t197]] (by rfl) rfl rfl (by (try simp only [List.map_toArray, List.map_cons, List.map_nil]); first | done | rfl | (simp only [List.length_drop, List.length_take]; rfl)) ?_
 with_reducible refine (wide_Add.calls t194 t195 t196 t197 t198 t199 _ A16.out).mono ?_
 rintro e w45 ⟨rfl, hb⟩
 refine ⟨_, rfl, ?_⟩
 have n0_ := AK_ (blk_below (by apply_rules [BK176.out, bN_, bD_, bA_]) hb)
 have n1_ := AK_ (blk_below (by apply_rules [BK177.out, bN_, bD_, bA_]) hb)
 have n2_ := AK_ (blk_below (by apply_rules [BK178.out, bN_, bD_, bA_]) hb)
 have n3_ := AK_ (blk_below (by apply_rules [BK187.out, bN_, bD_, bA_]) hb)
 have n4_ := AK_ (blk_below (by apply_rules [BK188.out, bN_, bD_, bA_]) hb)
 have n5_ := AK_ (below_step (by repeat (first | exact HB.out | apply below_alloc | apply pw_below_drewN | apply below_drew1 | refine below_set ?_ GE176.out | refine below_set ?_ GE177.out | refine below_set ?_ GE178.out | refine below_set ?_ GE187.out | refine below_set ?_ GE188.out)) hb)
 clear BK176 BK177 BK178 BK187 BK188 HB
 have BK176 := n0_
 have BK177 := n1_
 have BK178 := n2_
 have BK187 := n3_
 have BK188 := n4_
 have HB := n5_
 clear n0_ n1_ n2_ n3_ n4_ n5_
 (try clear hb)
 (try clear hb2)
 (try clear hk)
 (try clear hi)
 refine hK.out _ _ ⟨(blk_cell BK187.out 0).trans rfl, (blk_cell BK187.out 1).trans rfl, (blk_cell BK188.out 0).trans rfl, (blk_cell BK188.out 1).trans rfl, (blk_cell BK176.out 0).trans rfl, (blk_cell BK176.out 1).trans rfl, (blk_cell BK177.out 0).trans rfl, (blk_cell BK177.out 1).trans rfl⟩ (fun hHeld => ?_)
 clear hK K
 refine norm_ (a' := ?_) ?_ ?_
 rotate_left
 ·show Act.put _ (some 40) _ = _
  simp only [Act.put, List.setIfInBounds_toArray, List.set_cons_zero, List.set_cons_succ, i64_w, i32_w]
  rfl
 refine pure_ (i := 23) (N := some 42) (v := ?_) (a' := ?_) #[true, true, true, true, true, true, true, true, true, true, true, true, true, true, true, true, true, true, true, true, true, true, true, true, false, false, false, false, false, false, false, false, false, false, false, false, false, false, false, false] rfl rfl (any_of HT_.out (by kernel_rfl)) (fun _ _ _ h => h) (Or.inl ⟨by rfl, ?_⟩) ?_ ?_
 rotate_left
 ·intro w'
  go_simp
  with_reducible rfl
 rotate_left
 ·simp only [Act.put, List.setIfInBounds_toArray, List.set_cons_zero, List.set_cons_succ, i64_w, i32_w]
  rfl
 refine pure_ (i := 24) (N := some 43) (v := ?_) (a' := ?_) #[true, true, true, true, true, true, true, true, true, true, true, true, true, true, true, true, true, true, true, true, true, true, true, true, true, false, false, false, false, false, false, false, false, false, false, false, false, false, false, false] rfl rfl (any_of HT_.out (by kernel_rfl)) (fun _ _ _ h => h) (Or.inl ⟨by rfl, ?_⟩) ?_ ?_
 rotate_left
 ·intro w'
  go_simp
  with_reducible rfl
 rotate_left
 ·simp only [Act.put, List.setIfInBounds_toArray, List.set_cons_zero, List.set_cons_succ, i64_w, i32_w]
  rfl
 refine pure_ (i := 25) (N := some 44) (v := ?_) (a' := ?_) #[true, true, true, true, true, true, true, true, true, true, true, true, true, true, true, true, true, true, true, true, true, true, true, true, true, true, false, false, false, false, false, false, false, false, false, false, false, false, false, false] rfl rfl (any_of HT_.out (by kernel_rfl)) (fun _ _ _ h => h) (Or.inl ⟨by rfl, ?_⟩) ?_ ?_
 rotate_left
 ·intro w'
  go_simp
  with_reducible rfl
 rotate_left
 ·simp only [Act.put, List.setIfInBounds_toArray, List.set_cons_zero, List.set_cons_succ, i64_w, i32_w]
  rfl
 refine take_ (i := 26) (N := some 45) (v := ?_) (a' := ?_) #[true, true, true, true, true, true, true, true, true, true, true, true, true, true, true, true, true, true, true, true, true, true, true, true, true, true, true, false, false, false, false, false, false, false, false, false, false, false, false, false] rfl rfl (take_ofW HT_.out HW_.out (by kernel_rfl)) (fun _ _ _ h => h) (Or.inl ⟨by rfl, ?_⟩) hHeld ?_ ?_
 rotate_left
 ·rintro w' ⟨s0, s1, s2, s3, s4, s5, s6, s7⟩
  go_simp
  with_reducible rfl
 rotate_left
 ·simp only [Act.put, List.setIfInBounds_toArray, List.set_cons_zero, List.set_cons_succ, i64_w, i32_w]
  rfl
 refine take_ (i := 29) (N := some 48) (v := ?_) (a' := ?_) #[true, true, true, true, true, true, true, true, true, true, true, true, true, true, true, true, true, true, true, true, true, true, true, true, true, true, true, false, false, true, false, false, false, false, false, false, false, false, false, false] rfl rfl (take_ofW HT_.out HW_.out (by kernel_rfl)) (fun _ _ _ h => h) (Or.inl ⟨by rfl, ?_⟩) hHeld ?_ ?_
 rotate_left
 ·rintro w' ⟨s0, s1, s2, s3, s4, s5, s6, s7⟩
  go_simp
  with_reducible rfl
 rotate_left
 ·simp only [Act.put, List.setIfInBounds_toArray, List.set_cons_zero, List.set_cons_succ, i64_w, i32_w]
  rfl
 refine one_ (i := 27) (N := some 46) #[true, true, true, true, true, true, true, true, true, true, true, true, true, true, true, true, true, true, true, true, true, true, true, true, true, true, true, true, false, true, false, false, false, false, false, false, false, false, false, false] rfl rfl (one_of HT_.out (by kernel_rfl)) (by decide) (fun K hK => ?_)
 refine goes_ Try.func23 (by kernel_rfl) rfl #[.agg #[.int .i64 a0_0, .int .u64 a0_1]] (by rfl) rfl rfl (by (try simp only [List.map_toArray, List.map_cons, List.map_nil]); first | done | rfl | (simp only [List.length_drop, List.length_take]; rfl)) ?_
 with_reducible refine (wide_Minus.calls a0_0 a0_1 t200 t201 _ A18.out).mono ?_
 rintro e w46 ⟨rfl, hb⟩
 refine ⟨_, rfl, ?_⟩
 have n0_ := AK_ (blk_below (by apply_rules [BK176.out, bN_, bD_, bA_]) hb)
 have n1_ := AK_ (blk_below (by apply_rules [BK177.out, bN_, bD_, bA_]) hb)
 have n2_ := AK_ (blk_below (by apply_rules [BK178.out, bN_, bD_, bA_]) hb)
 have n3_ := AK_ (blk_below (by apply_rules [BK187.out, bN_, bD_, bA_]) hb)
 have n4_ := AK_ (blk_below (by apply_rules [BK188.out, bN_, bD_, bA_]) hb)
 have n5_ := AK_ (below_step (by repeat (first | exact HB.out | apply below_alloc | apply pw_below_drewN | apply below_drew1 | refine below_set ?_ GE176.out | refine below_set ?_ GE177.out | refine below_set ?_ GE178.out | refine below_set ?_ GE187.out | refine below_set ?_ GE188.out)) hb)
 clear BK176 BK177 BK178 BK187 BK188 HB
 have BK176 := n0_
 have BK177 := n1_
 have BK178 := n2_
 have BK187 := n3_
 have BK188 := n4_
 have HB := n5_
 clear n0_ n1_ n2_ n3_ n4_ n5_
 (try clear hb)
 (try clear hb2)
 (try clear hk)
 (try clear hi)
 refine hK.out _ _ ⟨(blk_cell BK187.out 0).trans rfl, (blk_cell BK187.out 1).trans rfl, (blk_cell BK188.out 0).trans rfl, (blk_cell BK188.out 1).trans rfl, (blk_cell BK176.out 0).trans rfl, (blk_cell BK176.out 1).trans rfl, (blk_cell BK177.out 0).trans rfl, (blk_cell BK177.out 1).trans rfl⟩ (fun hHeld => ?_)
 clear hK K
 refine norm_ (a' := ?_) ?_ ?_
 rotate_left
 ·show Act.put _ (some 46) _ = _
  simp only [Act.put, List.setIfInBounds_toArray, List.set_cons_zero, List.set_cons_succ, i64_w, i32_w]
  rfl
 refine one_ (i := 28) (N := some 47) #[true, true, true, true, true, true, true, true, true, true, true, true, true, true, true, true, true, true, true, true, true, true, true, true, true, true, true, true, true, true, false, false, false, false, false, false, false, false, false, false] rfl rfl (one_of HT_.out (by kernel_rfl)) (by decide) (fun K hK => ?_)
 refine goes_ Try.func23 (by kernel_rfl) rfl #[.agg #[.int .i64 t200, .int .u64 t201]] (by rfl) rfl rfl (by (try simp only [List.map_toArray, List.map_cons, List.map_nil]); first | done | rfl | (simp only [List.length_drop, List.length_take]; rfl)) ?_
 with_reducible refine (wide_Minus.calls t200 t201 t202 t203 _ A19.out).mono ?_
 rintro e w47 ⟨rfl, hb⟩
 refine ⟨_, rfl, ?_⟩
 have n0_ := AK_ (blk_below (by apply_rules [BK176.out, bN_, bD_, bA_]) hb)
 have n1_ := AK_ (blk_below (by apply_rules [BK177.out, bN_, bD_, bA_]) hb)
 have n2_ := AK_ (blk_below (by apply_rules [BK178.out, bN_, bD_, bA_]) hb)
 have n3_ := AK_ (blk_below (by apply_rules [BK187.out, bN_, bD_, bA_]) hb)
 have n4_ := AK_ (blk_below (by apply_rules [BK188.out, bN_, bD_, bA_]) hb)
 have n5_ := AK_ (below_step (by repeat (first | exact HB.out | apply below_alloc | apply pw_below_drewN | apply below_drew1 | refine below_set ?_ GE176.out | refine below_set ?_ GE177.out | refine below_set ?_ GE178.out | refine below_set ?_ GE187.out | refine below_set ?_ GE188.out)) hb)
 clear BK176 BK177 BK178 BK187 BK188 HB
 have BK176 := n0_
 have BK177 := n1_
 have BK178 := n2_
 have BK187 := n3_
 have BK188 := n4_
 have HB := n5_
 clear n0_ n1_ n2_ n3_ n4_ n5_
 (try clear hb)
 (try clear hb2)
 (try clear hk)
 (try clear hi)
 refine hK.out _ _ ⟨(blk_cell BK187.out 0).trans rfl, (blk_cell BK187.out 1).trans rfl, (blk_cell BK188.out 0).trans rfl, (blk_cell BK188.out 1).trans rfl, (blk_cell BK176.out 0).trans rfl, (blk_cell BK176.out 1).trans rfl, (blk_cell BK177.out 0).trans rfl, (blk_cell BK177.out 1).trans rfl⟩ (fun hHeld => ?_)
 clear hK K
 refine norm_ (a' := ?_) ?_ ?_
 rotate_left
 ·show Act.put _ (some 47) _ = _
  simp only [Act.put, List.setIfInBounds_toArray, List.set_cons_zero, List.set_cons_succ, i64_w, i32_w]
  rfl
 refine pure_ (i := 30) (N := some 49) (v := ?_) (a' := ?_) #[true, true, true, true, true, true, true, true, true, true, true, true, true, true, true, true, true, true, true, true, true, true, true, true, true, true, true, true, true, true, true, false, false, false, false, false, false, false, false, false] rfl rfl (any_of HT_.out (by kernel_rfl)) (fun _ _ _ h => h) (Or.inl ⟨by rfl, ?_⟩) ?_ ?_
 rotate_left
 ·intro w'
  go_simp
  with_reducible rfl
 rotate_left
 ·simp only [Act.put, List.setIfInBounds_toArray, List.set_cons_zero, List.set_cons_succ, i64_w, i32_w]
  rfl
 refine pure_ (i := 31) (N := some 50) (v := ?_) (a' := ?_) #[true, true, true, true, true, true, true, true, true, true, true, true, true, true, true, true, true, true, true, true, true, true, true, true, true, true, true, true, true, true, true, true, false, false, false, false, false, false, false, false] rfl rfl (any_of HT_.out (by kernel_rfl)) (fun _ _ _ h => h) (Or.inl ⟨by rfl, ?_⟩) ?_ ?_
 rotate_left
 ·intro w'
  go_simp
  with_reducible rfl
 rotate_left
 ·simp only [Act.put, List.setIfInBounds_toArray, List.set_cons_zero, List.set_cons_succ, i64_w, i32_w]
  rfl
 refine pure_ (i := 32) (N := some 51) (v := ?_) (a' := ?_) #[true, true, true, true, true, true, true, true, true, true, true, true, true, true, true, true, true, true, true, true, true, true, true, true, true, true, true, true, true, true, true, true, true, false, false, false, false, false, false, false] rfl rfl (any_of HT_.out (by kernel_rfl)) (fun _ _ _ h => h) (Or.inl ⟨by rfl, ?_⟩) ?_ ?_
 rotate_left
 ·intro w'
  go_simp
  with_reducible rfl
 rotate_left
 ·simp only [Act.put, List.setIfInBounds_toArray, List.set_cons_zero, List.set_cons_succ, i64_w, i32_w]
  rfl
 refine take_ (i := 33) (N := some 52) (v := ?_) (a' := ?_) #[true, true, true, true, true, true, true, true, true, true, true, true, true, true, true, true, true, true, true, true, true, true, true, true, true, true, true, true, true, true, true, true, true, true, false, false, false, false, false, false] rfl rfl (take_ofW HT_.out HW_.out (by kernel_rfl)) (fun _ _ _ h => h) (Or.inl ⟨by rfl, ?_⟩) hHeld ?_ ?_
 rotate_left
 ·rintro w' ⟨s0, s1, s2, s3, s4, s5, s6, s7⟩
  go_simp
  with_reducible rfl
 rotate_left
 ·simp only [Act.put, List.setIfInBounds_toArray, List.set_cons_zero, List.set_cons_succ, i64_w, i32_w]
  rfl
 refine take_ (i := 36) (N := some 55) (v := ?_) (a' := ?_) #[true, true, true, true, true, true, true, true, true, true, true, true, true, true, true, true, true, true, true, true, true, true, true, true, true, true, true, true, true, true, true, true, true, true, false, false, true, false, false, false] rfl rfl (take_ofW HT_.out HW_.out (by kernel_rfl)) (fun _ _ _ h => h) (Or.inl ⟨by rfl, ?_⟩) hHeld ?_ ?_
 rotate_left
 ·rintro w' ⟨s0, s1, s2, s3, s4, s5, s6, s7⟩
  go_simp
  with_reducible rfl
 rotate_left
 ·simp only [Act.put, List.setIfInBounds_toArray, List.set_cons_zero, List.set_cons_succ, i64_w, i32_w]
  rfl
 refine one_ (i := 34) (N := some 53) #[true, true, true, true, true, true, true, true, true, true, true, true, true, true, true, true, true, true, true, true, true, true, true, true, true, true, true, true, true, true, true, true, true, true, true, false, true, false, false, false] rfl rfl (one_of HT_.out (by kernel_rfl)) (by decide) (fun K hK => ?_)
 refine goes_ Try.func19 (by kernel_rfl) rfl #[.int .i64 0] (by rfl) rfl rfl (by (try simp only [List.map_toArray, List.map_cons, List.map_nil]); first | done | rfl | (simp only [List.length_drop, List.length_take]; rfl)) ?_
 with_reducible refine (wide_Of.calls 0 t204 t205 _ A21.out).mono ?_
 rintro e w48 ⟨rfl, hb⟩
 refine ⟨_, rfl, ?_⟩
 have n0_ := AK_ (blk_below (by apply_rules [BK176.out, bN_, bD_, bA_]) hb)
 have n1_ := AK_ (blk_below (by apply_rules [BK177.out, bN_, bD_, bA_]) hb)
 have n2_ := AK_ (blk_below (by apply_rules [BK178.out, bN_, bD_, bA_]) hb)
 have n3_ := AK_ (blk_below (by apply_rules [BK187.out, bN_, bD_, bA_]) hb)
 have n4_ := AK_ (blk_below (by apply_rules [BK188.out, bN_, bD_, bA_]) hb)
 have n5_ := AK_ (below_step (by repeat (first | exact HB.out | apply below_alloc | apply pw_below_drewN | apply below_drew1 | refine below_set ?_ GE176.out | refine below_set ?_ GE177.out | refine below_set ?_ GE178.out | refine below_set ?_ GE187.out | refine below_set ?_ GE188.out)) hb)
 clear BK176 BK177 BK178 BK187 BK188 HB
 have BK176 := n0_
 have BK177 := n1_
 have BK178 := n2_
 have BK187 := n3_
 have BK188 := n4_
 have HB := n5_
 clear n0_ n1_ n2_ n3_ n4_ n5_
 (try clear hb)
 (try clear hb2)
 (try clear hk)
 (try clear hi)
 refine hK.out _ _ ⟨(blk_cell BK187.out 0).trans rfl, (blk_cell BK187.out 1).trans rfl, (blk_cell BK188.out 0).trans rfl, (blk_cell BK188.out 1).trans rfl, (blk_cell BK176.out 0).trans rfl, (blk_cell BK176.out 1).trans rfl, (blk_cell BK177.out 0).trans rfl, (blk_cell BK177.out 1).trans rfl⟩ (fun hHeld => ?_)
 clear hK K
 refine norm_ (a' := ?_) ?_ ?_
 rotate_left
 ·show Act.put _ (some 53) _ = _
  simp only [Act.put, List.setIfInBounds_toArray, List.set_cons_zero, List.set_cons_succ, i64_w, i32_w]
  rfl
 refine one_ (i := 35) (N := some 54) #[true, true, true, true, true, true, true, true, true, true, true, true, true, true, true, true, true, true, true, true, true, true, true, true, true, true, true, true, true, true, true, true, true, true, true, true, true, false, false, false] rfl rfl (one_of HT_.out (by kernel_rfl)) (by decide) (fun K hK => ?_)
 refine goes_ Try.func21 (by kernel_rfl) rfl #[.agg #[.int .i64 a0_0, .int .u64 a0_1], .agg #[.int .i64 t204, .int .u64 t205]] (by rfl) rfl rfl (by (try simp only [List.map_toArray, List.map_cons, List.map_nil]); first | done | rfl | (simp only [List.length_drop, List.length_take]; rfl)) ?_
 with_reducible refine (wide_Add.calls a0_0 a0_1 t204 t205 t206 t207 _ A22.out).mono ?_
 rintro e w49 ⟨rfl, hb⟩
 refine ⟨_, rfl, ?_⟩
 have n0_ := AK_ (blk_below (by apply_rules [BK176.out, bN_, bD_, bA_]) hb)
 have n1_ := AK_ (blk_below (by apply_rules [BK177.out, bN_, bD_, bA_]) hb)
 have n2_ := AK_ (blk_below (by apply_rules [BK178.out, bN_, bD_, bA_]) hb)
 have n3_ := AK_ (blk_below (by apply_rules [BK187.out, bN_, bD_, bA_]) hb)
 have n4_ := AK_ (blk_below (by apply_rules [BK188.out, bN_, bD_, bA_]) hb)
 have n5_ := AK_ (below_step (by repeat (first | exact HB.out | apply below_alloc | apply pw_below_drewN | apply below_drew1 | refine below_set ?_ GE176.out | refine below_set ?_ GE177.out | refine below_set ?_ GE178.out | refine below_set ?_ GE187.out | refine below_set ?_ GE188.out)) hb)
 clear BK176 BK177 BK178 BK187 BK188 HB
 have BK176 := n0_
 have BK177 := n1_
 have BK178 := n2_
 have BK187 := n3_
 have BK188 := n4_
 have HB := n5_
 clear n0_ n1_ n2_ n3_ n4_ n5_
 (try clear hb)
 (try clear hb2)
 (try clear hk)
 (try clear hi)
 refine hK.out _ _ ⟨(blk_cell BK187.out 0).trans rfl, (blk_cell BK187.out 1).trans rfl, (blk_cell BK188.out 0).trans rfl, (blk_cell BK188.out 1).trans rfl, (blk_cell BK176.out 0).trans rfl, (blk_cell BK176.out 1).trans rfl, (blk_cell BK177.out 0).trans rfl, (blk_cell BK177.out 1).trans rfl⟩ (fun hHeld => ?_)
 clear hK K
 refine norm_ (a' := ?_) ?_ ?_
 rotate_left
 ·show Act.put _ (some 54) _ = _
  simp only [Act.put, List.setIfInBounds_toArray, List.set_cons_zero, List.set_cons_succ, i64_w, i32_w]
  rfl
 refine pure_ (i := 37) (N := some 56) (v := ?_) (a' := ?_) #[true, true, true, true, true, true, true, true, true, true, true, true, true, true, true, true, true, true, true, true, true, true, true, true, true, true, true, true, true, true, true, true, true, true, true, true, true, true, false, false] rfl rfl (any_of HT_.out (by kernel_rfl)) (fun _ _ _ h => h) (Or.inl ⟨by rfl, ?_⟩) ?_ ?_
 rotate_left
 ·intro w'
  go_simp
  with_reducible rfl
 rotate_left
 ·simp only [Act.put, List.setIfInBounds_toArray, List.set_cons_zero, List.set_cons_succ, i64_w, i32_w]
  rfl
 refine pure_ (i := 38) (N := some 57) (v := ?_) (a' := ?_) #[true, true, true, true, true, true, true, true, true, true, true, true, true, true, true, true, true, true, true, true, true, true, true, true, true, true, true, true, true, true, true, true, true, true, true, true, true, true, true, false] rfl rfl (any_of HT_.out (by kernel_rfl)) (fun _ _ _ h => h) (Or.inl ⟨by rfl, ?_⟩) ?_ ?_
 rotate_left
 ·intro w'
  go_simp
  with_reducible rfl
 rotate_left
 ·simp only [Act.put, List.setIfInBounds_toArray, List.set_cons_zero, List.set_cons_succ, i64_w, i32_w]
  rfl
 refine pure_ (i := 39) (N := some 6) (v := ?_) (a' := ?_) #[true, true, true, true, true, true, true, true, true, true, true, true, true, true, true, true, true, true, true, true, true, true, true, true, true, true, true, true, true, true, true, true, true, true, true, true, true, true, true, true] rfl rfl (any_of HT_.out (by kernel_rfl)) (fun _ _ _ h => h) (Or.inl ⟨by rfl, ?_⟩) ?_ ?_
 rotate_left
 ·intro w'
  go_simp
  with_reducible rfl
 rotate_left
 ·simp only [Act.put, List.setIfInBounds_toArray, List.set_cons_zero, List.set_cons_succ, i64_w, i32_w]
  rfl
 refine done_ (done_of HT_.out (by kernel_rfl)) ?_
 try go_wp2
 go_ret
 exact ⟨by first | rfl | (simp [errW_none, errW_some] <;> rfl) | (simp [*, errW_none, errW_some] <;> rfl), by repeat (first | exact HB.out | apply below_alloc | apply pw_below_drewN | apply below_drew1 | refine below_set ?_ GE176.out | refine below_set ?_ GE177.out | refine below_set ?_ GE178.out | refine below_set ?_ GE187.out | refine below_set ?_ GE188.out)⟩

end Go.Proofs.Ytjmobjjajnnodaa.P
