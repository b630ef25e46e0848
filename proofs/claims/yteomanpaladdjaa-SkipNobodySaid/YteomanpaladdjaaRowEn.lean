/- Arguments of composed types, opened: what is read is an element of a kind. No conditions. -/
import Derived.Test.YteomanpaladdjaaPx0
import Derived.Deep.Slices
import Derived.ChangeSame
import Derived.WalkKit
import Derived.ProofKit
import Derived.OpenShut
import Derived.ChangeOld
namespace Go.Proofs.Yteomanpaladdjaa.P
open Go.ChangeShapes Go.WideShapes Go.ChangeAt Go.RowKit Go.Proofs.YteomanpaladdjaaW.PrintWords
set_option linter.unusedVariables false
set_option linter.unusedSimpArgs false

structure Opens {α : Type} (t : TypeId) (d : Kd α) (ok : α → Prop) : Prop where
  out : ∀ (H : Type) (enc : TypeId × Value → H) (w : World) (fuel : Nat) (cs : List Value) (x : DataW H × List MemPlace), DataW.trod enc Try.prog w 0 (fun _ => true) true fuel t cs = some x → ∃ a : α, d.K w a cs ∧ ok a
theorem opens_int {t : TypeId} {k : IntKind} (ht : Try.prog.underlying t = some (.int k)) : Opens t (Kd.int k) (fun n => (Lit.int k n).wf = true) := by
  refine ⟨?_⟩
  intro H enc w fuel cs x h
  obtain ⟨n, rfl, _, hw⟩ := DataW.trod_int ht h
  exact ⟨n, rfl, hw⟩
theorem opens_bool {t : TypeId} (ht : Try.prog.underlying t = some .bool) : Opens t Kd.bool (fun _ => True) := by
  refine ⟨?_⟩
  intro H enc w fuel cs x h
  obtain ⟨n, rfl, _⟩ := DataW.trod_bool ht h
  exact ⟨n, rfl, trivial⟩
theorem Opens.imp {α : Type} {t : TypeId} {d : Kd α} {ok ok' : α → Prop} (h : Opens t d ok) (hk : ∀ a, ok a → ok' a) : Opens t d ok' := by
  refine ⟨?_⟩
  intro H enc w fuel cs x hx
  obtain ⟨a, h1, h2⟩ := h.out H enc w fuel cs x hx
  exact ⟨a, h1, hk a h2⟩
theorem opens_iso {α β : Type} {t : TypeId} {d : Kd α} {ok : α → Prop} (f : β → α) (g : α → β) (hfg : ∀ a, f (g a) = a) (h : Opens t d ok) : Opens t (Kd.iso d f) (fun b => ok (f b)) := by
  refine ⟨?_⟩
  intro H enc w fuel cs x hx
  obtain ⟨a, h1, h2⟩ := h.out H enc w fuel cs x hx
  refine ⟨g a, ?_, ?_⟩
  · show d.K w (f (g a)) cs
    rw [hfg]; exact h1
  · show ok (f (g a))
    rw [hfg]; exact h2
theorem opens_slice {α : Type} {t e : TypeId} {d : Kd α} {ok : α → Prop} (ht : Try.prog.underlying t = some (.slice e)) (hc : Try.prog.cellsOf e = d.sz) (h : Opens e d ok) : Opens t (Kd.slice e d) (fun l => ∀ a ∈ l, ok a) := by
  refine ⟨?_⟩
  intro H enc w fuel cs x hx
  rcases Go.Deep.open_slice ht hx with ⟨rfl, _⟩ | ⟨a, len, cap, m, n, D, Pl, rfl, hb, hl, hm, hmm, _, hel⟩
  · exact ⟨[], ⟨none, 0, rfl, Nat.le_refl _, Kd.C_nil _ _⟩, fun a ha => by cases ha⟩
  · simp only [if_true] at hmm
    have each : ∀ i, i < len → ∃ q : α, ok q ∧ ∃ c, d.K w q c ∧ ∀ j u, c[j]? = some u → w.cell? (a.add (i * d.sz + j)) = some u := by
      intro i hi
      obtain ⟨cs', h1, h2⟩ := hel i (by omega)
      rw [hc] at h1
      obtain ⟨_, hlen, hcell⟩ := World.cells?_some h1
      obtain ⟨q, hk, hok⟩ := h.out H enc w n cs' _ h2
      refine ⟨q, hok, cs', hk, fun j u hj => ?_⟩
      have hj' : j < d.sz := by rw [← hlen]; exact (List.getElem?_eq_some_iff.1 hj).1
      have := hcell j hj'
      rw [Go.Deep.add_add, hj] at this
      exact this
    by_cases h0 : len = 0
    · subst h0
      exact ⟨[], ⟨some a, cap, rfl, Nat.zero_le _, ⟨rfl, by simp, fun hp => absurd hp (by simp)⟩⟩, fun a ha => by cases ha⟩
    · obtain ⟨q0, _⟩ := each 0 (by omega)
      haveI : Inhabited α := ⟨q0⟩
      obtain ⟨q, hq⟩ := Go.Deep.choose_lt each
      have e1 : ((List.range len).map q).length = len := by simp
      refine ⟨(List.range len).map q, ⟨some a, cap, by rw [e1], by rw [e1]; exact hl, ?_⟩, ?_⟩
      · rw [e1]
        refine ⟨e1, by simp only [maxLen] at hm; omega, fun _ => ⟨_, rfl, fun j p hj => ?_⟩⟩
        simp only [List.getElem?_map, Option.map_eq_some_iff] at hj
        obtain ⟨i, hi, rfl⟩ := hj
        obtain ⟨h1, h2⟩ := List.getElem?_eq_some_iff.1 hi
        simp at h1 h2
        subst h2
        obtain ⟨_, c, hk, hcc⟩ := hq j (by omega)
        exact ⟨c, d.K_len hk, hk, hcc⟩
      · intro p hp
        obtain ⟨i, hi, rfl⟩ := List.mem_map.1 hp
        exact (hq i (List.mem_range.1 hi)).1
/-- The fields from the cell off on. -/
structure OpensF {α : Type} (fs : List Field) (off : Nat) (d : Kd α) (ok : α → Prop) : Prop where
  out : ∀ (H : Type) (enc : TypeId × Value → H) (w : World) (n : Nat) (cs : List Value), cs.length = off + d.sz → (∀ f ∈ fs, ∃ x, DataW.trod enc Try.prog w 0 (fun _ => true) true n f.type ((cs.drop f.offset).take (Try.prog.cellsOf f.type)) = some x) → ∃ a : α, d.K w a (cs.drop off) ∧ ok a
theorem opensF_one {α : Type} {f : Field} {off : Nat} {d : Kd α} {ok : α → Prop} (ho : f.offset = off) (hc : Try.prog.cellsOf f.type = d.sz) (h : Opens f.type d ok) : OpensF [f] off d ok := by
  refine ⟨?_⟩
  intro H enc w n cs hl hf
  obtain ⟨x, hx⟩ := hf f (List.mem_singleton.2 rfl)
  rw [ho, hc, List.take_of_length_le (by rw [List.length_drop, hl]; omega)] at hx
  exact h.out H enc w n _ x hx
theorem opensF_cons {α β : Type} {f : Field} {fs : List Field} {off : Nat} {d : Kd α} {d' : Kd β} {ok : α → Prop} {ok' : β → Prop} (ho : f.offset = off) (hc : Try.prog.cellsOf f.type = d.sz) (h : Opens f.type d ok) (hs : OpensF fs (off + d.sz) d' ok') :
    OpensF (f :: fs) off (Kd.pair d d') (fun p => ok p.1 ∧ ok' p.2) := by
  refine ⟨?_⟩
  intro H enc w n cs hl hf
  have hsz : (Kd.pair d d').sz = d.sz + d'.sz := rfl
  rw [hsz] at hl
  obtain ⟨x, hx⟩ := hf f (List.mem_cons_self ..)
  rw [ho, hc] at hx
  obtain ⟨a, h1, h2⟩ := h.out H enc w n _ x hx
  obtain ⟨b, h3, h4⟩ := hs.out H enc w n cs (by omega) (fun g hg => hf g (List.mem_cons_of_mem _ hg))
  refine ⟨(a, b), ⟨_, _, ?_, h1, h3⟩, h2, h4⟩
  rw [← List.drop_drop]
  exact (List.take_append_drop _ _).symm
theorem opens_struct {α : Type} {t : TypeId} {fs : Array Field} {d : Kd α} {ok : α → Prop} (ht : Try.prog.underlying t = some (.struct fs)) (hc : Try.prog.cellsOf t = d.sz) (h : OpensF fs.toList 0 d ok) : Opens t d ok := by
  refine ⟨?_⟩
  intro H enc w fuel cs x hx
  obtain ⟨xs, n, rfl, _, hl, hxl, hf⟩ := DataW.trod_struct ht hx
  have := h.out H enc w n cs (by rw [hl, hc]; omega) (fun f hfm => by
    obtain ⟨i, hi⟩ := List.getElem?_of_mem hfm
    rw [Array.getElem?_toList] at hi
    have hlt := (Array.getElem?_eq_some_iff.1 hi).1
    obtain ⟨y, hy⟩ : ∃ y, xs[i]? = some y := ⟨_, List.getElem?_eq_getElem (by omega)⟩
    exact ⟨y, (hf i f hi).trans hy⟩)
  simpa using this
/-- An argument that is a slice. -/
theorem open_arg {H : Type} {enc : TypeId × Value → H} {w : World} {base : Nat} {α : Type} {t e : TypeId} {d : Kd α} {ok : List α → Prop} {r : Reach} {v : Value} {x : DataW H} {ps : List MemPlace} (ht : Try.prog.underlying t = some (.slice e)) (h : Opens t (Kd.slice e d) ok)
    (hval : Value.okWide Try.prog w r base t v) (h0 : DataW.Trod enc Try.prog w 0 (fun _ => true) true t v x ps) :
    ∃ (A : Option Addr) (c : Nat) (l : List α), v = .slice A l.length c ∧ l.length ≤ c ∧ Kd.C d w A l.length l ∧ ok l := by
  obtain ⟨a0, len0, cap0, rfl⟩ := okWide_slice ht hval
  obtain ⟨fuel, hf⟩ := h0
  obtain ⟨l, ⟨A, c, he, hl, hC⟩, hok⟩ := h.out H enc w fuel _ _ hf
  simp [Value.cells] at he
  obtain ⟨rfl, rfl, rfl⟩ := he
  exact ⟨a0, cap0, l, rfl, hl, hC, hok⟩
end Go.Proofs.Yteomanpaladdjaa.P

namespace Go.Proofs.Yteomanpaladdjaa.P
open Go.ChangeShapes Go.WideShapes Go.ChangeAt Go.RowKit Go.Proofs.YteomanpaladdjaaW.PrintWords
set_option linter.unusedVariables false
set_option linter.unusedSimpArgs false

def rngU (n : Int) : Prop := 0 ≤ n ∧ n < 18446744073709551616
def rngI (n : Int) : Prop := -9223372036854775808 ≤ n ∧ n < 9223372036854775808
theorem wf_u {n : Int} (h : (Lit.int .u64 n).wf = true) : rngU n := by
  simp [Lit.wf, IntKind.min, IntKind.max, IntKind.signed, IntKind.bits] at h
  unfold rngU; omega
theorem wf_i {n : Int} (h : (Lit.int .i64 n).wf = true) : rngI n := by
  simp [Lit.wf, IntKind.min, IntKind.max, IntKind.signed, IntKind.bits] at h
  unfold rngI; omega
theorem wf_8 {n : Int} (h : (Lit.int .u8 n).wf = true) : 0 ≤ n ∧ n < 256 := by
  simp [Lit.wf, IntKind.min, IntKind.max, IntKind.signed, IntKind.bits] at h
  omega
def OkAg (a : S36) : Prop := rngU a.f0 ∧ rngI a.f2.f0 ∧ rngU a.f2.f1 ∧ rngI a.f3 ∧ rngI a.f4
def OkEn (x : S38) : Prop := (∀ b ∈ x.f0, 0 ≤ b ∧ b < 256) ∧ OkAg x.f1
theorem opens_bytes : Opens 23 (Kd.slice 5 (Kd.int .u8)) (fun l => ∀ b ∈ l, 0 ≤ b ∧ b < 256) :=
  (opens_slice Try.underlying23 (by kernel_rfl) (opens_int Try.underlying5)).imp (fun l h b hb => wf_8 (h b hb))
theorem opens_wide : Opens 34 k34 (fun x => rngI x.f0 ∧ rngU x.f1) :=
  (opens_iso _ (fun p => ⟨p.1, p.2⟩) (fun _ => rfl) (opens_struct Try.underlying34 (by kernel_rfl)
    (opensF_cons rfl (by kernel_rfl) (opens_int Try.underlying2) (opensF_one rfl (by kernel_rfl) (opens_int Try.underlying32))))).imp (fun a h => ⟨wf_i h.1, wf_u h.2⟩)
theorem opens_agg : Opens 36 k36 OkAg :=
  (opens_iso _ (fun p => ⟨p.1, p.2.1, p.2.2.1, p.2.2.2.1, p.2.2.2.2⟩) (fun _ => rfl) (opens_struct Try.underlying36 (by kernel_rfl)
    (opensF_cons rfl (by kernel_rfl) (opens_int Try.underlying32) (opensF_cons rfl (by kernel_rfl) (opens_bool Try.underlying4)
      (opensF_cons rfl (by kernel_rfl) opens_wide (opensF_cons rfl (by kernel_rfl) (opens_int Try.underlying2) (opensF_one rfl (by kernel_rfl) (opens_int Try.underlying2)))))))).imp
    (fun a h => ⟨wf_u h.1, h.2.2.1.1, h.2.2.1.2, wf_i h.2.2.2.1, wf_i h.2.2.2.2⟩)
theorem opens_entry : Opens 38 k38 OkEn :=
  (opens_iso _ (fun p => ⟨p.1, p.2⟩) (fun _ => rfl) (opens_struct Try.underlying38 (by kernel_rfl)
    (opensF_cons rfl (by kernel_rfl) opens_bytes (opensF_one rfl (by kernel_rfl) opens_agg)))).imp (fun a h => h)
theorem opens_ents : Opens 22 (Kd.slice 38 k38) (fun l => ∀ x ∈ l, OkEn x) := opens_slice Try.underlying22 (by kernel_rfl) opens_entry
end Go.Proofs.Yteomanpaladdjaa.P
