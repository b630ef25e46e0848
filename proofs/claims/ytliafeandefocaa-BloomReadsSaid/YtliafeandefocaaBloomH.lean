/- Where a filter stands in memory. No conditions. -/
import Derived.Test.YtliafeandefocaaBloomP
import Derived.Test.YtliafeandefocaaBase
namespace Go.Proofs.Ytliafeandefocaa.P
open Go.RowKit Go.Proofs.YtliafeandefocaaW.PrintWords Go.Proofs.YtliafeandefocaaW.PrintLast Go.Proofs.YtliafeandefocaaW.PrintMore
set_option linter.unusedVariables false
set_option linter.unusedSimpArgs false

/-- A filter stands at block g, its digits at block b. -/
structure Flt (W : World) (g b : Nat) (h : Int) (l : List Int) : Prop where
  fl : W.heap[g]? = some (.cells #[.slice (some ⟨b, 0, none⟩) l.length l.length, .int .i64 h] 42 (0, 0))
  bt : W.heap[b]? = some (.cells (l.map (Value.int .u8)).toArray 5 (0, 0))

/-- A pointer to it. -/
abbrev ptr (g : Nat) : Value := .pointer (some ⟨g, 0, none⟩)

theorem made_calls (g b : Nat) (h : Int) (l : List Int) (w : World) (hF : Flt w g b h l) (hh : 1 ≤ h) :
    Calls Try.prog 24 #[ptr g] w fun e w' => e = .returned (.bool true) ∧ Drawn0 w w' := by
  have hc1 : w.cell? ⟨g, 1, none⟩ = some (.int .i64 h) := by
    simp [World.cell?, hF.fl]
  have hd : decide (0 < h) = true := decide_eq_true (by omega)
  go_enter Try.func24, Try.ntmps24
  go_wp2
  go_ret
  exact ⟨rfl, Drawn0.refl _⟩
theorem made_nil (w : World) :
    Calls Try.prog 24 #[.pointer none] w fun e w' => e = .returned (.bool false) ∧ Drawn0 w w' := by
  go_enter Try.func24, Try.ntmps24
  go_wp2
  go_ret
  exact ⟨rfl, Drawn0.refl _⟩

theorem Flt.keep {A B : World} {g b : Nat} {h : Int} {l : List Int} (hF : Flt A g b h l) (hg : B.heap[g]? = A.heap[g]?) (hb : B.heap[b]? = A.heap[b]?) : Flt B g b h l := ⟨hg.trans hF.fl, hb.trans hF.bt⟩
theorem Flt.gt {A : World} {g b : Nat} {h : Int} {l : List Int} (hF : Flt A g b h l) : g < A.heap.size := (Array.getElem?_eq_some_iff.1 hF.fl).1
theorem Flt.btlt {A : World} {g b : Nat} {h : Int} {l : List Int} (hF : Flt A g b h l) : b < A.heap.size := (Array.getElem?_eq_some_iff.1 hF.bt).1
theorem Flt.ne {A : World} {g b : Nat} {h : Int} {l : List Int} (hF : Flt A g b h l) : g ≠ b := by
  rintro rfl
  have h1 := hF.fl.symm.trans hF.bt
  simp at h1
theorem Flt.below {A B : World} {g b : Nat} {h : Int} {l : List Int} (hF : Flt A g b h l) (hb : Below A.heap.size A B) : Flt B g b h l := hF.keep (hb.block _ hF.gt) (hb.block _ hF.btlt)
theorem Flt.grown {A B : World} {g b k : Nat} {h : Int} {l : List Int} (hF : Flt A g b h l) (hk : A.grownBy B (some k)) (h1 : g ≠ k) (h2 : b ≠ k) : Flt B g b h l :=
  hF.keep (hk.block _ hF.gt (by simpa using h1)) (hk.block _ hF.btlt (by simpa using h2))
theorem Flt.bits {A : World} {g b : Nat} {h : Int} {l : List Int} (hF : Flt A g b h l) : A.cell? ⟨g, 0, none⟩ = some (.slice (some ⟨b, 0, none⟩) l.length l.length) := by simp [World.cell?, hF.fl]
theorem Flt.hashes {A : World} {g b : Nat} {h : Int} {l : List Int} (hF : Flt A g b h l) : A.cell? ⟨g, 1, none⟩ = some (.int .i64 h) := by simp [World.cell?, hF.fl]
theorem Flt.at_ {A : World} {g b : Nat} {h : Int} {l : List Int} (hF : Flt A g b h l) {i : Nat} (hi : i < l.length) : A.cell? ⟨b, i, none⟩ = some (.int .u8 (l.getD i 0)) := by simp [World.cell?, hF.bt, hi]
theorem Flt.froz {A : World} {g b : Nat} {h : Int} {l : List Int} (hF : Flt A g b h l) (i : Nat) : A.frozen? ⟨b, i, none⟩ = false := by simp [World.frozen?, hF.bt]
theorem Flt.reads {A : World} {g b : Nat} {h : Int} {l : List Int} (hF : Flt A g b h l) (hl : l.length ≤ 9223372036854775807) : Kd.C (Kd.int .u8) A (some ⟨b, 0, none⟩) l.length l := by
  refine ⟨rfl, hl, fun _ => ⟨_, rfl, fun j p hj => ⟨[.int .u8 p], rfl, rfl, fun i u hu => ?_⟩⟩⟩
  have hi : i = 0 ∧ u = .int .u8 p := by
    cases i with
    | zero => simp at hu; exact ⟨rfl, hu.symm⟩
    | succ i => simp at hu
  obtain ⟨rfl, rfl⟩ := hi
  have e1 : (⟨b, 0, none⟩ : Addr).add (j * (Kd.int .u8).sz + 0) = ⟨b, j, none⟩ := by
    show (⟨b, 0, none⟩ : Addr).add (j * 1 + 0) = _
    simp [Addr.add, eq_comm]
  rw [e1]
  have h1 := (List.getElem?_eq_some_iff.1 hj)
  rw [hF.at_ h1.1]
  simp [hj]
/-- A byte of the digits is written. -/
theorem Flt.set {A : World} {g b : Nat} {h : Int} {l : List Int} (hF : Flt A g b h l) (i : Nat) (x : Int) : Flt (A.setCell ⟨b, i, none⟩ (.int .u8 x)) g b h (l.set i x) := by
  refine ⟨?_, ?_⟩
  · rw [Below.heap_setCell _ _ _ _ (by simpa using hF.ne), hF.fl]; simp
  · have hb := hF.bt
    have hlt := hF.btlt
    rw [List.map_set]
    show (A.heap.modify b _)[b]? = _
    obtain ⟨hlt, hk⟩ := Array.getElem?_eq_some_iff.1 hb
    rw [Array.getElem?_eq_getElem (by rw [Array.size_modify]; exact hlt), Array.getElem_modify_self, hk]
    simp

section
variable {P : Program} {ops : Array Oper} {rest : List Oper} {o : Oper} {a : Act} {Q : Exit → Act → World → Prop}
/-- make([]T, n): the zeros in a block of its own. -/
theorem wpList_make (hgd : o.guard = none) {N : Tmp} (hd : o.dst = some N) (t e : TypeId) (x y : Operand) (ho : o.op = .makeSlice t x y) (n : Nat) {W : World} (hx : a.eval x = .int .i64 n) (hy : a.eval y = .int .i64 n)
    (ht : P.underlying t = some (.slice e)) (z : Value) (bytes : Nat) (hinfo : (P.info? e).map (fun i => (i.zero, i.size, i.bytes)) = some (some z, 1, bytes)) (hz : z.cells = #[z]) (hb0 : 0 < bytes) (hl : n * bytes ≤ 281474976710656)
    (h : wpList P ops Q rest (a.put o.dst (.slice (some ⟨W.heap.size, 0, none⟩) n n)) (W.alloc (.cells (List.replicate n z).toArray e))) : wpList P ops Q (o :: rest) a W := by
  obtain ⟨i0, hi, hzz⟩ := Option.map_eq_some_iff.1 hinfo
  simp only [Prod.mk.injEq] at hzz
  obtain ⟨hz0, hz1, hz2⟩ := hzz
  have hm : n ≤ 281474976710656 := Nat.le_trans (Nat.le_mul_of_pos_right _ hb0) hl
  have hr := run_make (P := P) W t e i0 z ht hi hz0 .i64 .i64 (n : Int) (n : Int) (by omega) (by omega)
    (by
      have h3 : ((i0.bytes * n : Nat) : Int) ≤ 281474976710656 := by rw [hz2, Nat.mul_comm]; omega
      rwa [Int.natCast_mul] at h3) (by omega)
  simp only [Int.toNat_natCast] at hr
  have hcells : madeCells z.cells (n * i0.size) = (List.replicate n z).toArray := by
    rw [hz1, hz]
    apply Array.ext
    · simp [madeCells]
    · intro i h1 h2; simp [madeCells, Nat.mod_one]
  rw [hcells] at hr
  exact Kd.event_run hgd (by simp [execOp, ho, hx, hy, hr]) h
end

end Go.Proofs.Ytliafeandefocaa.P
