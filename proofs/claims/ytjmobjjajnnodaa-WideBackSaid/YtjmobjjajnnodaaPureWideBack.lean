/- rickyardlaw01.WideBack: texts and bytes go there and back. No conditions. -/
import Derived.Test.YtjmobjjajnnodaaWideParse
import Derived.Test.YtjmobjjajnnodaaBytesV
import Derived.Test.YtjmobjjajnnodaaPrickyardlaw01WideBack
namespace Go.Proofs.Ytjmobjjajnnodaa.Pure
open Go.RowKit Go.Proofs.Ytjmobjjajnnodaa.P Go.Proofs.YtjmobjjajnnodaaW.PrintWords Go.Proofs.YtjmobjjajnnodaaW.PrintLast
set_option linter.unusedVariables false

theorem read_any (l : List Int) (h : IsBy l) : ∃ q0 q1 e, wide_Read.f l = some (q0, q1, e) := by
  unfold wide_Read.f
  by_cases h1 : l.length < 16
  · rw [if_pos h1]; exact ⟨_, _, _, rfl⟩
  · rw [if_neg h1]
    by_cases h2 : 16 < l.length
    · rw [if_pos h2]; exact ⟨_, _, _, rfl⟩
    · rw [if_neg h2, if_pos h]; exact ⟨_, _, _, rfl⟩
theorem WideBack_tail (q0 q1 e : Int) (l : List Int) (hl : IsBy l) (hr : wide_Read.f l = some (q0, q1, e)) : (if e = 0 then ((wide_Write.f q0 q1).bind fun t342 => (some ((strOfNums t342).toList == (strOfNums l).toList))) else (some true)) = some true := by
  by_cases h : e = 0
  · subst h
    have := write_read hl hr
    rw [if_pos rfl]
    unfold wide_Write.f
    simp only [Option.bind_some]
    rw [this.2]; simp
  · rw [if_neg h]
theorem WideBack_j1 (s : List Int) (hs : ByB s) (l : List Int) (hl : IsBy l) (hlen : s.length ≤ 300) : rickyardlaw01_WideBack.j1 400 (strOfNums s) l false = some true := by
  obtain ⟨q0, q1, e, hr⟩ := read_any l hl
  rw [show (400 : Nat) = 399 + 1 from rfl, rickyardlaw01_WideBack.j1, if_neg (by decide), show (399 : Nat) = 53 + 346 from rfl, parse_f hs hlen 53]
  simp only [Option.bind_some]
  rw [hr]
  simp only [Option.bind_some]
  rw [alive01_f _ (by decide)]
  simp only [Option.bind_some, if_true]
  obtain ⟨p0, p1, g, hp⟩ : ∃ p0 p1 g, parse3 s = (p0, p1, g) := ⟨_, _, _, rfl⟩
  rw [hp]
  simp only []
  by_cases hg : g = 0
  · subst hg
    obtain ⟨⟨a, b, _, _⟩, hpr⟩ := print_parse hp
    rw [if_pos rfl]
    unfold wide_Print.f
    rw [if_pos ⟨a, b⟩]
    simp only [Option.bind_some]
    rw [hpr, if_pos rfl]
    exact WideBack_tail q0 q1 e l hl hr
  · rw [if_neg hg]
    exact WideBack_tail q0 q1 e l hl hr
theorem prOut_by (a0 a1 : Int) : ByB (prOut a0 a1) := by
  have hd : ∀ n, ByB (dec n) := fun n x hx => by
    have := (List.all_eq_true.1 (dec_digs n)) x hx
    simp at this; omega
  unfold prOut
  split
  · intro x hx
    rcases List.mem_cons.1 hx with rfl | hx
    · decide
    · exact hd _ x hx
  · exact hd _
theorem prOut_le (a0 a1 : Int) (h1 : 0 ≤ a1) (h2 : a1 < 18446744073709551616) (h3 : -9223372036854775808 ≤ a0) (h4 : a0 < 9223372036854775808) : (prOut a0 a1).length ≤ 300 := by
  have hN := prN_vl a0 a1 h1 h2 h3 h4
  have hlen : (dec (prN a0 a1)).length ≤ 39 := dec_len 38 _ (by
    rw [show (10 : Nat) ^ (38 + 1) = 1000000000000000000000000000000000000000 from rfl]
    unfold vl at hN; split at hN <;> omega)
  unfold prOut
  split
  · simp only [List.length_cons]; omega
  · omega
theorem WideBack_walk (a0 a1 : Int) (s : ByteArray) (A : Option Addr) (c : Nat) (l : List Int) (w : World) (p0 : (Lit.int .i64 a0).wf = true) (p1 : (Lit.int .u64 a1).wf = true) (_ : s.size ≤ maxLen) (hr : Kd.C (Kd.int .u8) w A l.length l) (hc : l.length ≤ c) (hb : ∀ x ∈ l, 0 ≤ x ∧ x < 256) :
    Calls Try.prog 11 #[.agg #[.int .i64 a0, .int .u64 a1], .string s, .slice A l.length c] w fun e w' => e = .returned (.bool true) ∧ Below w.heap.size w w' := by
  have pa := of_wf_i64 p0
  have pb := of_wf_u64 p1
  refine rickyardlaw01_WideBack.calls 401 a0 a1 s A c l true w hr hc ?_ rfl
  unfold rickyardlaw01_WideBack.f
  have hj : ∀ b : Bool, (b = false → s.size ≤ 200) → rickyardlaw01_WideBack.j0 401 s l b a0 a1 = some true := by
    intro b hbs
    rw [show (401 : Nat) = 400 + 1 from rfl, rickyardlaw01_WideBack.j0]
    cases b with
    | true => rw [if_pos rfl, alive01_f _ (by decide)]; rfl
    | false =>
      rw [if_neg (by decide)]
      unfold wide_Print.f
      rw [if_pos ⟨pb.1, pb.2⟩]
      simp only [Option.bind_some]
      rw [show (400 : Nat) = 54 + 346 from rfl, parse_f (prOut_by a0 a1) (prOut_le a0 a1 pb.1 pb.2 pa.1 pa.2) 54, parse_print a0 a1 pb.1 pb.2 pa.1 pa.2]
      simp only [Option.bind_some]
      unfold wide_Write.f
      simp only [Option.bind_some]
      rw [read_write a0 a1 pb.1 pb.2 pa.1 pa.2]
      simp only [Option.bind_some, if_true, beq_self_eq_true, Bool.not_true, Bool.or_self, Bool.false_eq_true, if_false]
      have := WideBack_j1 (dsOf s) (dsOf_by s) l hb (by rw [dsOf_len]; have := hbs rfl; omega)
      rw [str_dsOf] at this
      exact this
  by_cases h : (s.size : Int) > 200
  · rw [if_pos h]; exact hj true (fun h => by cases h)
  · rw [if_neg h]; exact hj _ (fun _ => by omega)

end Go.Proofs.Ytjmobjjajnnodaa.Pure
