/- block.next: a pair is read, or none. Conditions: the bytes are bytes. -/
import Derived.Test.YticddiiigfkamaaBkRShort
import Derived.Test.YticddiiigfkamaaECloneB
namespace Go.Proofs.Yticddiiigfkamaa.P
open Go.RowKit Go.Proofs.YticddiiigfkamaaW.PrintWords Go.Proofs.YticddiiigfkamaaW.PrintLast Go.Proofs.YticddiiigfkamaaW.PrintMore
set_option linter.unusedVariables false
set_option linter.unusedSimpArgs false

/-- k short numbers, one behind the other, and what is left. -/
def rdK : Nat → List Int → Option (List Nat × List Int)
  | 0, b => some ([], b)
  | k + 1, b => match rdK k b with
    | none => none
    | some (ns, b') => match rs b' with
      | none => none
      | some (n, u) => some (ns ++ [n], b'.drop u)
def wrongA (last : List Int) (place n0 n1 n2 len : Nat) : Bool := decide (last.length < n0) || (decide (place % 8 = 0) && decide (0 < n0)) || decide (4096 < n0 + n1) || decide (len < n1 + n2)
def wrongB (last key : List Int) (place n0 : Nat) : Bool := (decide (0 < place) && decide (0 ≤ cmpI last key)) || (decide (0 < place % 8) && (cmn last key != n0))
/-- A pair, and what is left. -/
def nextS (b : List Int) (place : Nat) (last : List Int) : Option (Pr × List Int) :=
  match rdK 3 b with
  | some ([n0, n1, n2], b') => if wrongA last place n0 n1 n2 b'.length = true then none else if wrongB last (last.take n0 ++ b'.take n1) place n0 = true then none else some (⟨last.take n0 ++ b'.take n1, (b'.take (n1 + n2)).drop n1⟩, b'.drop (n1 + n2))
  | _ => none
theorem rs_le {l : List Int} {n u : Nat} (h : rs l = some (n, u)) (hB : ∀ x ∈ l, 0 ≤ x ∧ x < 256) : n ≤ 4096 ∧ u ≤ l.length ∧ 1 ≤ u := by
  match l, h, hB with
  | [], h, _ => simp [rs] at h
  | c :: t, h, hB =>
    have hc := hB c (by simp)
    rw [rs] at h
    by_cases h1 : c < 128
    · rw [if_pos h1] at h
      simp only [Option.some.injEq, Prod.mk.injEq] at h
      simp only [List.length_cons]
      omega
    · rw [if_neg h1] at h
      match t, h with
      | [], h => simp [rs2] at h
      | d :: t, h =>
        rw [rs2] at h
        by_cases h2 : 128 ≤ d
        · rw [if_pos h2] at h; cases h
        rw [if_neg h2] at h
        by_cases h3 : d = 0
        · rw [if_pos h3] at h; cases h
        rw [if_neg h3] at h
        by_cases h4 : (c % 128).toNat + 128 * d.toNat ≤ 4096
        · rw [if_pos h4] at h
          simp only [Option.some.injEq, Prod.mk.injEq] at h
          simp only [List.length_cons]
          omega
        · rw [if_neg h4] at h; cases h
theorem rdK_none {b : List Int} {j : Nat} (h : rdK j b = none) : ∀ d, rdK (j + d) b = none
  | 0 => h
  | d + 1 => by rw [← Nat.add_assoc, rdK, rdK_none h d]
theorem rdK_stop {b b' : List Int} {j : Nat} {ns : List Nat} (h : rdK j b = some (ns, b')) (hr : rs b' = none) (hj : j < 3) : rdK 3 b = none := by
  have : rdK (j + 1) b = none := by rw [rdK, h]; simp only []; rw [hr]
  have h2 := rdK_none this (2 - j)
  rwa [show j + 1 + (2 - j) = 3 by omega] at h2
theorem rdK_go {b b' : List Int} {j n u : Nat} {ns : List Nat} (h : rdK j b = some (ns, b')) (hr : rs b' = some (n, u)) : rdK (j + 1) b = some (ns ++ [n], b'.drop u) := by
  rw [rdK, h]; simp only []; rw [hr]
theorem rdK_mem {b : List Int} : ∀ {j : Nat} {b' : List Int} {ns : List Nat}, rdK j b = some (ns, b') → ∀ x ∈ b', x ∈ b
  | 0, b', ns, h => by
    rw [rdK] at h
    simp only [Option.some.injEq, Prod.mk.injEq] at h
    obtain ⟨_, rfl⟩ := h
    exact fun x hx => hx
  | j + 1, b', ns, h => by
    rw [rdK] at h
    cases h1 : rdK j b with
    | none => rw [h1] at h; cases h
    | some p =>
      obtain ⟨ns1, b1⟩ := p
      rw [h1] at h
      simp only [] at h
      cases h2 : rs b1 with
      | none => rw [h2] at h; cases h
      | some q =>
        obtain ⟨n, u⟩ := q
        rw [h2] at h
        simp only [Option.some.injEq, Prod.mk.injEq] at h
        obtain ⟨_, rfl⟩ := h
        exact fun x hx => rdK_mem h1 x (List.mem_of_mem_drop hx)
theorem rdK_le {b : List Int} (hB : ∀ x ∈ b, 0 ≤ x ∧ x < 256) : ∀ {j : Nat} {b' : List Int} {ns : List Nat}, rdK j b = some (ns, b') → ∀ n ∈ ns, n ≤ 4096
  | 0, b', ns, h => by
    rw [rdK] at h
    simp only [Option.some.injEq, Prod.mk.injEq] at h
    obtain ⟨rfl, _⟩ := h
    exact fun n hn => by cases hn
  | j + 1, b', ns, h => by
    rw [rdK] at h
    cases h1 : rdK j b with
    | none => rw [h1] at h; cases h
    | some p =>
      obtain ⟨ns1, b1⟩ := p
      rw [h1] at h
      simp only [] at h
      cases h2 : rs b1 with
      | none => rw [h2] at h; cases h
      | some q =>
        obtain ⟨n, u⟩ := q
        rw [h2] at h
        simp only [Option.some.injEq, Prod.mk.injEq] at h
        obtain ⟨rfl, _⟩ := h
        intro m hm
        rcases List.mem_append.1 hm with hm | hm
        · exact rdK_le hB h1 m hm
        · obtain rfl : m = n := by simpa using hm
          exact (rs_le h2 (fun x hx => hB x (rdK_mem h1 x hx))).1
theorem arr3 {ns : List Nat} {n j : Nat} (hl : ns.length = j) (hj : j < 3) : (#[Value.int .i64 (ns.getD 0 0 : Nat), .int .i64 (ns.getD 1 0 : Nat), .int .i64 (ns.getD 2 0 : Nat)] : Array Value).setIfInBounds j (.int .i64 (n : Int)) = #[Value.int .i64 ((ns ++ [n]).getD 0 0 : Nat), .int .i64 ((ns ++ [n]).getD 1 0 : Nat), .int .i64 ((ns ++ [n]).getD 2 0 : Nat)] := by
  match ns, hl with
  | [], hl => subst hl; rfl
  | [_], hl => subst hl; rfl
  | [_, _], hl => subst hl; rfl
  | _ :: _ :: _ :: _, hl => simp at hl; omega
theorem nextS_A {b b' : List Int} {place n0 n1 n2 : Nat} {last : List Int} (h : rdK 3 b = some ([n0, n1, n2], b')) (hw : wrongA last place n0 n1 n2 b'.length = true) : nextS b place last = none := by
  unfold nextS; rw [h]; simp only []; rw [if_pos hw]
theorem nextS_B {b b' : List Int} {place n0 n1 n2 : Nat} {last : List Int} (h : rdK 3 b = some ([n0, n1, n2], b')) (hw : wrongA last place n0 n1 n2 b'.length = false) (hv : wrongB last (last.take n0 ++ b'.take n1) place n0 = true) : nextS b place last = none := by
  unfold nextS; rw [h]; simp only []; rw [hw, if_neg (by decide), if_pos hv]
theorem nextS_ok {b b' : List Int} {place n0 n1 n2 : Nat} {last : List Int} (h : rdK 3 b = some ([n0, n1, n2], b')) (hw : wrongA last place n0 n1 n2 b'.length = false) (hv : wrongB last (last.take n0 ++ b'.take n1) place n0 = false) : nextS b place last = some (⟨last.take n0 ++ b'.take n1, (b'.take (n1 + n2)).drop n1⟩, b'.drop (n1 + n2)) := by
  unfold nextS; rw [h]; simp only []; rw [hw, if_neg (by decide), hv, if_neg (by decide)]
theorem nextS_none {b : List Int} {place : Nat} {last : List Int} (h : rdK 3 b = none) : nextS b place last = none := by unfold nextS; rw [h]

theorem lit_of (n : Nat) (xs : Array Value) (h : xs.size = n) : xs = ((List.range n).map fun k => xs.getD k undef).toArray := by
  subst h
  apply Array.ext
  · simp
  · intro i h1 h2
    simp [h1]
theorem lit125 (xs : Array Value) (h : xs.size = 125) : xs = #[xs.getD 0 undef, xs.getD 1 undef, xs.getD 2 undef, xs.getD 3 undef, xs.getD 4 undef, xs.getD 5 undef, xs.getD 6 undef, xs.getD 7 undef, xs.getD 8 undef, xs.getD 9 undef, xs.getD 10 undef, xs.getD 11 undef, xs.getD 12 undef, xs.getD 13 undef, xs.getD 14 undef, xs.getD 15 undef, xs.getD 16 undef, xs.getD 17 undef, xs.getD 18 undef, xs.getD 19 undef, xs.getD 20 undef, xs.getD 21 undef, xs.getD 22 undef, xs.getD 23 undef, xs.getD 24 undef, xs.getD 25 undef, xs.getD 26 undef, xs.getD 27 undef, xs.getD 28 undef, xs.getD 29 undef, xs.getD 30 undef, xs.getD 31 undef, xs.getD 32 undef, xs.getD 33 undef, xs.getD 34 undef, xs.getD 35 undef, xs.getD 36 undef, xs.getD 37 undef, xs.getD 38 undef, xs.getD 39 undef, xs.getD 40 undef, xs.getD 41 undef, xs.getD 42 undef, xs.getD 43 undef, xs.getD 44 undef, xs.getD 45 undef, xs.getD 46 undef, xs.getD 47 undef, xs.getD 48 undef, xs.getD 49 undef, xs.getD 50 undef, xs.getD 51 undef, xs.getD 52 undef, xs.getD 53 undef, xs.getD 54 undef, xs.getD 55 undef, xs.getD 56 undef, xs.getD 57 undef, xs.getD 58 undef, xs.getD 59 undef, xs.getD 60 undef, xs.getD 61 undef, xs.getD 62 undef, xs.getD 63 undef, xs.getD 64 undef, xs.getD 65 undef, xs.getD 66 undef, xs.getD 67 undef, xs.getD 68 undef, xs.getD 69 undef, xs.getD 70 undef, xs.getD 71 undef, xs.getD 72 undef, xs.getD 73 undef, xs.getD 74 undef, xs.getD 75 undef, xs.getD 76 undef, xs.getD 77 undef, xs.getD 78 undef, xs.getD 79 undef, xs.getD 80 undef, xs.getD 81 undef, xs.getD 82 undef, xs.getD 83 undef, xs.getD 84 undef, xs.getD 85 undef, xs.getD 86 undef, xs.getD 87 undef, xs.getD 88 undef, xs.getD 89 undef, xs.getD 90 undef, xs.getD 91 undef, xs.getD 92 undef, xs.getD 93 undef, xs.getD 94 undef, xs.getD 95 undef, xs.getD 96 undef, xs.getD 97 undef, xs.getD 98 undef, xs.getD 99 undef, xs.getD 100 undef, xs.getD 101 undef, xs.getD 102 undef, xs.getD 103 undef, xs.getD 104 undef, xs.getD 105 undef, xs.getD 106 undef, xs.getD 107 undef, xs.getD 108 undef, xs.getD 109 undef, xs.getD 110 undef, xs.getD 111 undef, xs.getD 112 undef, xs.getD 113 undef, xs.getD 114 undef, xs.getD 115 undef, xs.getD 116 undef, xs.getD 117 undef, xs.getD 118 undef, xs.getD 119 undef, xs.getD 120 undef, xs.getD 121 undef, xs.getD 122 undef, xs.getD 123 undef, xs.getD 124 undef] := (lit_of 125 xs h).trans rfl
/-- At the label. -/
def NxJ (b : List Int) (place : Nat) (last : List Int) (w : World) (lb : Nat) (a' : Act) (w' : World) : Prop :=
  lb = 0 ∧ nextS b place last = none ∧ Below w.heap.size w w' ∧ ∃ g6 : Nat, w.heap.size ≤ g6 ∧ w'.heap[g6]? = some (.cells #[.slice none 0 0, .slice none 0 0] 39 (0, 0)) ∧ a'.tmps.size = 125 ∧ a'.tmps.getD 6 undef = .pointer (some ⟨g6, 0, none⟩) ∧ a'.defers = []
def NxM (lb : Nat) (a' : Act) (w' : World) : Nat := 0
theorem blk_new1' (w : World) (o1 o : Obj) : ((w.alloc o1).alloc o).heap[w.heap.size + 1]? = some o := by
  have h := blk_new (w.alloc o1) o
  rwa [World.size_alloc] at h
theorem blk_new2' (w : World) (o1 o2 o : Obj) : (((w.alloc o1).alloc o2).alloc o).heap[w.heap.size + 1 + 1]? = some o := by
  have h := blk_new ((w.alloc o1).alloc o2) o
  rwa [World.size_alloc, World.size_alloc] at h
/-- What is told. -/
def NxP (b : List Int) (place : Nat) (last : List Int) (w : World) (A : Option Addr) (e : Ending) (w' : World) : Prop :=
  match nextS b place last with
  | none => e = .returned (.tuple #[.agg #[.slice none 0 0, .slice none 0 0], .slice none 0 0, .bool false]) ∧ Below w.heap.size w w'
  | some (p, rest) => ∃ (v0 v1 : Value) (A' : Option Addr) (c' : Nat), e = .returned (.tuple #[.agg #[v0, v1], .slice A' rest.length c', .bool true]) ∧ Kd.R (Kd.int .u8) 5 w' w.heap.size (fun _ => True) v0 p.f0 ∧ Kd.R (Kd.int .u8) 5 w' w.heap.size (fun k => some k ≠ v0.ownBlock) v1 p.f1 ∧
    (∀ W, Kd.C (Kd.int .u8) W A b.length b → Kd.C (Kd.int .u8) W A' rest.length rest) ∧ rest.length ≤ c' ∧ Below w.heap.size w w'

set_option maxHeartbeats 8000000 in
set_option maxRecDepth 100000 in
theorem next_calls (A : Option Addr) (c : Nat) (b : List Int) (place : Nat) (A1 : Option Addr) (c1 : Nat) (last : List Int) (w : World) (hr : Kd.C (Kd.int .u8) w A b.length b) (hc : b.length ≤ c) (hB : ∀ x ∈ b, 0 ≤ x ∧ x < 256)
    (hr1 : Kd.C (Kd.int .u8) w A1 last.length last) (hc1 : last.length ≤ c1) (hpl : place ≤ 1000000) (hll : last.length ≤ 4096) :
    Calls Try.prog 33 #[.slice A b.length c, .int .i64 place, .slice A1 last.length c1] w (NxP b place last w A) := by
  have HR := Aside0.mk hr
  have HC := Aside0.mk hc
  have HBY := Aside0.mk hB
  have HR1 := Aside0.mk hr1
  have HC1 := Aside0.mk hc1
  have HPL := Aside0.mk hpl
  have HLL := Aside0.mk hll
  have HM := Aside0.mk hr.2.1
  have HB0 := Aside0.mk (Below.refl w.heap.size w)
  have hu := Try.underlying39
  have hu3 := Try.underlying52
  obtain ⟨i5, hi5, hzz⟩ := Option.map_eq_some_iff.1 info5
  simp only [Prod.mk.injEq] at hzz
  have HI5 := Aside0.mk (And.intro hi5 hzz.2.1)
  clear hr hc hB hr1 hc1 hpl hll hi5 hzz
  go_enter Try.func33, Try.ntmps33
  go_wp2
  refine wp_scope_any (NxJ b place last w) NxM 1 ?_ ?_
  · go_wp2
    go_loopg [0, 15] 3 (fun kq v0 v15 w' => ∃ (j : Nat) (A' : Option Addr) (b' : List Int) (c' : Nat) (ns : List Nat), v0 = .slice A' b'.length c' ∧ v15 = .int .i64 (j : Int) ∧ Aside0 (j ≤ 3 ∧ kq = 3 - j ∧ rdK j b = some (ns, b') ∧ b'.length ≤ c' ∧ ns.length = j) ∧ Aside0 (∀ W, Kd.C (Kd.int .u8) W A b.length b → Kd.C (Kd.int .u8) W A' b'.length b') ∧
      Aside0 (w'.heap[w.heap.size]? = some (.cells #[.slice none 0 0, .slice none 0 0] 39 (0, 0))) ∧ Aside0 (w'.heap[w.heap.size + 1]? = some (.cells #[.int .i64 (ns.getD 0 0 : Nat), .int .i64 (ns.getD 1 0 : Nat), .int .i64 (ns.getD 2 0 : Nat)] 52 (0, 0))) ∧ Aside0 (w'.heap[w.heap.size + 1 + 1]? = some (.cells #[.slice none 0 0, .slice none 0 0] 39 (0, 0))) ∧ Aside0 (Below w.heap.size w w'))
    case atStart =>
      refine ⟨0, A, b, c, [], rfl, rfl, ⟨by decide, rfl, rfl, HC.out, rfl⟩, ⟨fun W h => h⟩, ⟨?_⟩, ⟨?_⟩, ⟨?_⟩, ⟨below_alloc (below_alloc (below_alloc HB0.out _) _) _⟩⟩
      · exact blk_alloc (blk_alloc (blk_new _ _) _) _
      · exact blk_alloc (blk_new1' _ _ _) _
      · exact blk_new2' _ _ _ _
    case round =>
      obtain ⟨j, A', b', c', ns, rfl, rfl, HJ, HA, B6, B9, B10, HB⟩ := hrel
      have hBy : ∀ x ∈ b', 0 ≤ x ∧ x < 256 := fun x hx => HBY.out x (rdK_mem HJ.out.2.2.1 x hx)
      by_cases hj : j < 3
      · obtain ⟨J, hJ⟩ : ∃ J : Int, (j : Int) = J := ⟨_, rfl⟩
        have HJJ := Aside0.mk hJ
        have d1 : decide (J < 3) = true := decide_eq_true (by omega)
        have HBY2 := Aside0.mk hBy
        have hcall := fun W hC => rshort_calls A' c' b' W hC HJ.out.2.2.2.1 HBY2.out
        have HJ3 := Aside0.mk hj
        have HGJ := Aside0.mk (Nat.le_refl w.heap.size)
        have HBJ := HB
        have BGJ := B6
        rw [hJ]
        clear hj hJ hBy
        cases hrs : rs b' with
        | none =>
          have hnx := nextS_none (place := place) (last := last) (rdK_stop HJ.out.2.2.1 hrs HJ3.out)
          have HNX := Aside0.mk hnx
          have HCALL := Aside0.mk (show ∀ W, Kd.C (Kd.int .u8) W A' b'.length b' → Calls Try.prog 37 #[.slice A' b'.length c'] W fun e w' => ∃ v u ee : Int, e = .returned (.tuple #[.int .u64 v, .int .i64 u, .int .i64 ee]) ∧ (ee ≠ 0 ∨ 4096 < v) ∧ w' = W from fun W hC => (hcall W hC).mono fun e w' ⟨v, u, ee, h1, h2, h3⟩ => ⟨v, u, ee, h1, by have := h2.2; rw [hrs] at this; exact this, h3⟩)
          clear hcall hrs hnx
          go_wp2_with (first
            | ((with_reducible refine gate_callee (f := 37) rfl ?_); refine goesL_ (some 20) rfl rfl Try.func37 (by kernel_rfl) rfl #[.slice A' b'.length c'] rfl (by (try simp only [List.map_toArray, List.map_cons, List.map_nil]); first | done | rfl | (simp only [List.length_drop, List.length_take]; rfl)) ?_; refine (HCALL.out _ (HA.out _ (Kd.C_below HR.out HB.out))).mono ?_; rintro e w2 ⟨v, u, ee, rfl, hp, rfl⟩; refine ⟨_, rfl, ?_⟩; by_cases hee : ee = 0; (have e1 : (ee != 0) = false := (by rw [hee]; rfl); have e1b : (ee == 0) = true := beq_iff_eq.mpr hee; have e2 : decide (4096 < v) = true := decide_eq_true (by rcases hp with h | h; exact absurd hee h; exact h); clear hp hee); rotate_left; (have e1 : (ee != 0) = true := bne_iff_ne.mpr hee; have e1b : (ee == 0) = false := beq_eq_false_iff_ne.mpr hee; clear hp hee); rotate_left))
          all_goals
            go_step3
            exact ⟨⟨rfl, HNX.out, HBJ.out, _, HGJ.out, BGJ.out, rfl, rfl, rfl⟩, by rw [NxM]; decide⟩
        | some p =>
          obtain ⟨n, q⟩ := p
          obtain ⟨hn4, hq1, hq2⟩ := rs_le hrs HBY2.out
          have HCALL := Aside0.mk (show ∀ W, Kd.C (Kd.int .u8) W A' b'.length b' → Calls Try.prog 37 #[.slice A' b'.length c'] W fun e w' => e = .returned (.tuple #[.int .u64 (n : Int), .int .i64 (q : Int), .int .i64 0]) ∧ w' = W from fun W hC => (hcall W hC).mono fun e w' ⟨v, u, ee, h1, h2, h3⟩ => by have := h2.2; rw [hrs] at this; obtain ⟨rfl, rfl, rfl⟩ := this; exact ⟨h1, h3⟩)
          have HGO := Aside0.mk (rdK_go HJ.out.2.2.1 hrs)
          obtain ⟨A2, hcut, hcut2, hcut3⟩ := print_drop_of (P := Try.prog) (Value.int .u8) (0 : Int) 23 5 .i64 Try.underlying23 HI5.out.1 HI5.out.2 A' c' b' (q : Int) (by omega) (by omega) HJ.out.2.2.2.1
          rw [Int.toNat_natCast] at hcut hcut2 hcut3
          obtain ⟨b2, hb2⟩ : ∃ b2, b'.drop q = b2 := ⟨_, rfl⟩
          rw [hb2] at hcut hcut2 hcut3 HGO
          have HCUT := Aside0.mk hcut2
          have HCUT3 := Aside0.mk hcut3
          obtain ⟨nv, hnv⟩ : ∃ x : Int, (n : Int) = x := ⟨_, rfl⟩
          rw [hnv] at HCALL
          have HNV := Aside0.mk hnv
          have d2 : decide (4096 < nv) = false := decide_eq_false (by omega)
          have hjj := HJJ.out
          have hj3 := HJ3.out
          have i1 : (0 ≤ J) = True := eq_true (by omega)
          have i2 : (J < 3) = True := eq_true (by omega)
          have i3 : J.toNat = j := by omega
          have w1 : wrap64 nv = nv := by unfold wrap64; omega
          have w2 : wrap64 (J + 1) = ((j + 1 : Nat) : Int) := by unfold wrap64; omega
          have hc9 : ∃ v0, wr.cell? ⟨w.heap.size + 1, j, none⟩ = some v0 := by
            rw [blk_cell B9.out j]
            match j, HJ3.out with
            | 0, _ => exact ⟨_, rfl⟩
            | 1, _ => exact ⟨_, rfl⟩
            | 2, _ => exact ⟨_, rfl⟩
          obtain ⟨v0, hc9⟩ := hc9
          have hc9d : wr.drew.cell? ⟨w.heap.size + 1, j, none⟩ = some v0 := hc9
          have hf9 := blk_frozen B9.out j
          have hf9d := blk_frozen (blk_drew B9.out) j
          clear hcall hrs hn4 hq1 hq2 hcut2 hcut3 hb2 hnv hjj hj3
          go_wp2_with (first
            | ((with_reducible refine gate_callee (f := 37) rfl ?_); refine goesL_ (some 20) rfl rfl Try.func37 (by kernel_rfl) rfl #[.slice A' b'.length c'] rfl (by (try simp only [List.map_toArray, List.map_cons, List.map_nil]); first | done | rfl | (simp only [List.length_drop, List.length_take]; rfl)) ?_; refine (HCALL.out _ (HA.out _ (Kd.C_below HR.out HB.out))).mono ?_; rintro e w2_ ⟨rfl, rfl⟩; refine ⟨_, rfl, ?_⟩))
          go_region
          all_goals
            go_wp2
            go_roundg (3 - (j + 1))
            case measure => have := HJ.out.2.1; have := HJ3.out; omega
            case rel =>
              refine ⟨j + 1, A2, b2, c' - q, ns ++ [n], rfl, by rw [w2], ⟨HJ3.out, rfl, HGO.out, HCUT3.out, by rw [List.length_append, HJ.out.2.2.2.2]; rfl⟩, ⟨fun W hC => Kd.C_of_reads (d := (0 : Int)) (h1 := fun _ => rfl) (HCUT.out W (Kd.reads_of_C (HA.out W hC)))⟩, ⟨?_⟩, ⟨?_⟩, ⟨?_⟩, ⟨?_⟩⟩
              · exact blk_drew (blk_far B6.out (by simp) _)
              · refine blk_drew ?_
                rw [← HNV.out]
                exact (blk_set B9.out j (.int .i64 (n : Int))).trans (by rw [arr3 HJ.out.2.2.2.2 HJ3.out])
              · exact blk_drew (blk_far B10.out (by simp) _)
              · exact (below_set HB.out (by omega)).drew
      · have hj3 : j = 3 := by have := HJ.out.1; omega
        obtain ⟨n0, n1, n2, rfl⟩ : ∃ n0 n1 n2, ns = [n0, n1, n2] := by
          have hl := HJ.out.2.2.2.2
          rw [hj3] at hl
          match ns, hl with
          | [a, b, c], _ => exact ⟨a, b, c, rfl⟩
        have hrd : rdK 3 b = some ([n0, n1, n2], b') := by have := HJ.out.2.2.1; rwa [hj3] at this
        have hle := rdK_le HBY.out hrd
        have h0 := hle n0 (by simp)
        have h1 := hle n1 (by simp)
        have h2 := hle n2 (by simp)
        have HRD := Aside0.mk hrd
        have HLE := Aside0.mk HJ.out.2.2.2.1
        have HBY2 := Aside0.mk hBy
        have d1 : decide ((j : Int) < 3) = false := decide_eq_false (by omega)
        have HBJ := HB
        have BGJ := B6
        have HGJ := Aside0.mk (Nat.le_refl w.heap.size)
        have hb' : b'.length ≤ 9223372036854775807 := ((HA.out _ HR.out).2.1)
        obtain ⟨m0, hm0⟩ : ∃ x : Int, (n0 : Int) = x := ⟨_, rfl⟩
        obtain ⟨m1, hm1⟩ : ∃ x : Int, (n1 : Int) = x := ⟨_, rfl⟩
        obtain ⟨m2, hm2⟩ : ∃ x : Int, (n2 : Int) = x := ⟨_, rfl⟩
        obtain ⟨pl, hpl⟩ : ∃ x : Int, (place : Int) = x := ⟨_, rfl⟩
        obtain ⟨p8, hp8⟩ : ∃ x : Int, ((place % 8 : Nat) : Int) = x := ⟨_, rfl⟩
        have hplb := HPL.out
        have wt : pl.tmod 8 = p8 := by rw [Int.tmod_eq_emod_of_nonneg (by omega)]; omega
        obtain ⟨s1, hs1⟩ : ∃ x : Int, m0 + m1 = x := ⟨_, rfl⟩
        obtain ⟨s2, hs2⟩ : ∃ x : Int, m1 + m2 = x := ⟨_, rfl⟩
        have HMS := Aside0.mk (And.intro hm0 (And.intro hm1 (And.intro hm2 (And.intro hpl (And.intro hp8 (And.intro hs1 hs2))))))
        have HBD := Aside0.mk (And.intro h0 (And.intro h1 h2))
        have B9' := Aside0.mk (show wr.heap[w.heap.size + 1]? = some (.cells #[.int .i64 m0, .int .i64 m1, .int .i64 m2] 52 (0, 0)) by rw [← hm0, ← hm1, ← hm2]; exact B9.out)
        have k90 : wr.cell? ⟨w.heap.size + 1, 0, none⟩ = some (.int .i64 m0) := (blk_cell B9'.out 0).trans rfl
        have k91 : wr.cell? ⟨w.heap.size + 1, 1, none⟩ = some (.int .i64 m1) := (blk_cell B9'.out 1).trans rfl
        have k92 : wr.cell? ⟨w.heap.size + 1, 2, none⟩ = some (.int .i64 m2) := (blk_cell B9'.out 2).trans rfl
        have v1 : wrap64 (m0 + m1) = s1 := by unfold wrap64; omega
        have v2 : wrap64 (m1 + m2) = s2 := by unfold wrap64; omega
        rw [hpl]
        by_cases q1 : last.length < n0
        · have HNX := Aside0.mk (nextS_A hrd (place := place) (last := last) (by unfold wrongA; rw [decide_eq_true q1]; rfl))
          have e1 : decide ((last.length : Int) < m0) = true := decide_eq_true (by omega)
          (try clear hm0 hm1 hm2 hpl hp8 hs1 hs2)
          (try clear h0 h1 h2 hle hrd)
          (try clear hplb hb')
          (try clear q1)
          (try clear q2)
          (try clear q3)
          (try clear q4)
          (try clear hw2)
          (try clear hj hj3 hBy)
          go_wp2
          go_step3
          exact ⟨⟨rfl, HNX.out, HBJ.out, _, HGJ.out, BGJ.out, rfl, rfl, rfl⟩, by rw [NxM]; decide⟩
        have e1 : decide ((last.length : Int) < m0) = false := decide_eq_false (by omega)
        by_cases q2 : place % 8 = 0 ∧ 0 < n0
        · have HNX := Aside0.mk (nextS_A hrd (place := place) (last := last) (by unfold wrongA; rw [decide_eq_true q2.1, decide_eq_true q2.2]; simp))
          have e2 : (p8 == 0) = true := beq_iff_eq.mpr (by omega)
          have e2p : (p8 = 0) = True := eq_true (by omega)
          have e3 : decide (0 < m0) = true := decide_eq_true (by omega)
          (try clear hm0 hm1 hm2 hpl hp8 hs1 hs2)
          (try clear h0 h1 h2 hle hrd)
          (try clear hplb hb')
          (try clear q1)
          (try clear q2)
          (try clear q3)
          (try clear q4)
          (try clear hw2)
          (try clear hj hj3 hBy)
          go_wp2
          go_step3
          exact ⟨⟨rfl, HNX.out, HBJ.out, _, HGJ.out, BGJ.out, rfl, rfl, rfl⟩, by rw [NxM]; decide⟩
        obtain ⟨b8, hb8⟩ : ∃ b8, (p8 == 0) = b8 := ⟨_, rfl⟩
        have hb0 : b8 = true → decide (0 < m0) = false := fun h => by rw [h] at hb8; exact decide_eq_false (by have := beq_iff_eq.1 hb8; omega)
        have hw2 : (decide (place % 8 = 0) && decide (0 < n0)) = false := by
          by_cases h : place % 8 = 0
          · rw [decide_eq_true h, Bool.true_and]; exact decide_eq_false (fun h3 => q2 ⟨h, h3⟩)
          · rw [decide_eq_false h, Bool.false_and]
        by_cases q3 : 4096 < n0 + n1
        · have HNX := Aside0.mk (nextS_A hrd (place := place) (last := last) (by unfold wrongA; rw [decide_eq_true q3]; simp))
          have e4 : decide (4096 < s1) = true := decide_eq_true (by omega)
          cases b8 with
          | true =>
            have e3 := hb0 rfl
            clear hb0
            (try clear hm0 hm1 hm2 hpl hp8 hs1 hs2)
            (try clear h0 h1 h2 hle hrd)
            (try clear hplb hb')
            (try clear q1)
            (try clear q2)
            (try clear q3)
            (try clear q4)
            (try clear hw2)
            (try clear hj hj3 hBy)
            go_wp2
            go_step3
            exact ⟨⟨rfl, HNX.out, HBJ.out, _, HGJ.out, BGJ.out, rfl, rfl, rfl⟩, by rw [NxM]; decide⟩
          | false =>
            clear hb0
            (try clear hm0 hm1 hm2 hpl hp8 hs1 hs2)
            (try clear h0 h1 h2 hle hrd)
            (try clear hplb hb')
            (try clear q1)
            (try clear q2)
            (try clear q3)
            (try clear q4)
            (try clear hw2)
            (try clear hj hj3 hBy)
            go_wp2
            go_step3
            exact ⟨⟨rfl, HNX.out, HBJ.out, _, HGJ.out, BGJ.out, rfl, rfl, rfl⟩, by rw [NxM]; decide⟩
        have e4 : decide (4096 < s1) = false := decide_eq_false (by omega)
        by_cases q4 : b'.length < n1 + n2
        · have HNX := Aside0.mk (nextS_A hrd (place := place) (last := last) (by unfold wrongA; rw [decide_eq_true q4]; simp))
          have e5 : decide ((b'.length : Int) < s2) = true := decide_eq_true (by omega)
          cases b8 with
          | true =>
            have e3 := hb0 rfl
            clear hb0
            (try clear hm0 hm1 hm2 hpl hp8 hs1 hs2)
            (try clear h0 h1 h2 hle hrd)
            (try clear hplb hb')
            (try clear q1)
            (try clear q2)
            (try clear q3)
            (try clear q4)
            (try clear hw2)
            (try clear hj hj3 hBy)
            go_wp2
            go_step3
            exact ⟨⟨rfl, HNX.out, HBJ.out, _, HGJ.out, BGJ.out, rfl, rfl, rfl⟩, by rw [NxM]; decide⟩
          | false =>
            clear hb0
            (try clear hm0 hm1 hm2 hpl hp8 hs1 hs2)
            (try clear h0 h1 h2 hle hrd)
            (try clear hplb hb')
            (try clear q1)
            (try clear q2)
            (try clear q3)
            (try clear q4)
            (try clear hw2)
            (try clear hj hj3 hBy)
            go_wp2
            go_step3
            exact ⟨⟨rfl, HNX.out, HBJ.out, _, HGJ.out, BGJ.out, rfl, rfl, rfl⟩, by rw [NxM]; decide⟩
        have e5 : decide ((b'.length : Int) < s2) = false := decide_eq_false (by omega)
        have HWA := Aside0.mk (show wrongA last place n0 n1 n2 b'.length = false by unfold wrongA; rw [decide_eq_false q1, hw2, decide_eq_false q3, decide_eq_false q4]; rfl)
        have HQ := Aside0.mk (And.intro q1 (And.intro q3 q4))
        cases b8 with
        | true =>
          have e3 := hb0 rfl
          clear hb0
          (try clear hm0 hm1 hm2 hpl hp8 hs1 hs2)
          (try clear h0 h1 h2 hle hrd)
          (try clear hplb hb')
          (try clear q1)
          (try clear q2)
          (try clear q3)
          (try clear q4)
          (try clear hw2)
          (try clear hj hj3 hBy)
          go_wp2
          obtain ⟨hm0, hm1, hm2, hpl, hp8, hs1, hs2⟩ := HMS.out
          obtain ⟨q1, q3, q4⟩ := HQ.out
          have hl0 : (last.take n0).length = n0 := by rw [List.length_take]; omega
          have hl1 : (b'.take n1).length = n1 := by rw [List.length_take]; omega
          have hl3 : ((b'.take (n1 + n2)).drop n1).length = n2 := by rw [List.length_drop, List.length_take]; omega
          obtain ⟨r, hr⟩ : ∃ r, b'.length - (n1 + n2) = r := ⟨_, rfl⟩
          have hl4 : (b'.drop (n1 + n2)).length = r := by rw [List.length_drop, hr]
          have t0 : m0.toNat = n0 := by omega
          have t1 : m1.toNat = n1 := by omega
          have t2 : s2.toNat = n1 + n2 := by omega
          obtain ⟨cut0, cut0r, cut0l⟩ := print_take_of (P := Try.prog) (Value.int .u8) (0 : Int) 23 5 .i64 Try.underlying23 HI5.out.1 HI5.out.2 A1 c1 last m0 (by omega) (by omega) HC1.out
          obtain ⟨cut1, cut1r, cut1l⟩ := print_take_of (P := Try.prog) (Value.int .u8) (0 : Int) 23 5 .i64 Try.underlying23 HI5.out.1 HI5.out.2 A' c' b' m1 (by omega) (by omega) HLE.out
          obtain ⟨A3, cut3, cut3r, cut3l⟩ := print_mid_of (P := Try.prog) (Value.int .u8) (0 : Int) 23 5 .i64 .i64 Try.underlying23 HI5.out.1 HI5.out.2 A' c' b' m1 s2 (by omega) (by omega) (by omega) HLE.out
          obtain ⟨A4, cut4, cut4r, cut4l⟩ := print_drop_of (P := Try.prog) (Value.int .u8) (0 : Int) 23 5 .i64 Try.underlying23 HI5.out.1 HI5.out.2 A' c' b' s2 (by omega) (by omega) HLE.out
          rw [t0, hl0] at cut0 cut0r
          rw [t0, hl0] at cut0l
          rw [t1, hl1] at cut1 cut1r
          rw [t1, t2, hl3] at cut3 cut3r cut3l
          rw [t2, hl4] at cut4 cut4r cut4l
          have HA0 := Aside0.mk (show ∀ W, Below w.heap.size w W → Kd.C (Kd.int .u8) W A1 n0 (last.take n0) from fun W hb => Kd.C_of_reads (d := (0 : Int)) (h1 := fun _ => rfl) (cut0r W (Kd.reads_of_C (Kd.C_below HR1.out hb))))
          have HA1 := Aside0.mk (show ∀ W, Below w.heap.size w W → Kd.C (Kd.int .u8) W A' n1 (b'.take n1) from fun W hb => Kd.C_of_reads (d := (0 : Int)) (h1 := fun _ => rfl) (cut1r W (Kd.reads_of_C (HA.out W (Kd.C_below HR.out hb)))))
          have HA3 := Aside0.mk (show ∀ W, Below w.heap.size w W → Kd.C (Kd.int .u8) W A3 n2 ((b'.take (n1 + n2)).drop n1) from fun W hb => Kd.C_of_reads (d := (0 : Int)) (h1 := fun _ => rfl) (cut3r W (Kd.reads_of_C (HA.out W (Kd.C_below HR.out hb)))))
          have HA4 := Aside0.mk (show ∀ W, Kd.C (Kd.int .u8) W A b.length b → Kd.C (Kd.int .u8) W A4 r (b'.drop (n1 + n2)) from fun W hC => Kd.C_of_reads (d := (0 : Int)) (h1 := fun _ => rfl) (cut4r W (Kd.reads_of_C (HA.out W hC))))
          have HCL0 := Aside0.mk (show ∀ W, Below w.heap.size w W → Calls Try.prog 38 #[.slice A1 n0 c1] W fun e w' => ∃ v, e = .returned v ∧ Kd.R (Kd.int .u8) 5 w' W.heap.size (fun _ => True) v (last.take n0) ∧ Below W.heap.size W w' from fun W hb => by
            have h_ := slices_Clone_byte_byte.calls A1 c1 (last.take n0) (last.take n0) W (by rw [hl0]; exact HA0.out W hb) (by rw [hl0]; exact cut0l) (by unfold slices_Clone_byte_byte.f; rw [if_pos (by rw [hl0]; have := HBD.out.1; omega)])
            rw [hl0] at h_; exact h_)
          have HCL3 := Aside0.mk (show ∀ W, Below w.heap.size w W → Calls Try.prog 38 #[.slice A3 n2 (c' - n1)] W fun e w' => ∃ v, e = .returned v ∧ Kd.R (Kd.int .u8) 5 w' W.heap.size (fun _ => True) v ((b'.take (n1 + n2)).drop n1) ∧ Below W.heap.size W w' from fun W hb => by
            have h_ := slices_Clone_byte_byte.calls A3 (c' - n1) ((b'.take (n1 + n2)).drop n1) ((b'.take (n1 + n2)).drop n1) W (by rw [hl3]; exact HA3.out W hb) (by rw [hl3]; exact cut3l) (by unfold slices_Clone_byte_byte.f; rw [if_pos (by rw [hl3]; have := HBD.out.2.2; omega)])
            rw [hl3] at h_; exact h_)
          have HL := Aside0.mk (And.intro hl0 (And.intro hl1 (And.intro hl3 (And.intro hl4 cut4l))))
          have HNEP := Aside0.mk (show ∀ q, q ∈ 5 :: (Kd.int .u8).E → q ≠ 39 by decide)
          have HL5 := Aside0.mk (show (last.take n0 ++ b'.take n1).length = n0 + n1 by rw [List.length_append, hl0, hl1])
          have HLIM := Aside0.mk (show ((last.take n0).length + n1) * 1 ≤ 140737488355328 by rw [hl0]; have := HBD.out; omega)
          obtain ⟨g9, hg9⟩ : ∃ g, w.heap.size + 1 = g := ⟨_, rfl⟩
          obtain ⟨g10, hg10⟩ : ∃ g, w.heap.size + 1 + 1 = g := ⟨_, rfl⟩
          have HG := Aside0.mk (show w.heap.size < g9 ∧ g9 < g10 by omega)
          rw [hg10] at B10 ⊢
          rw [hg9] at B9' k90 k91 k92 ⊢
          have HS := Aside0.mk (show wr.drew.cell? ⟨g9, 0, none⟩ = some (.int .i64 m0) ∧ wr.drew.cell? ⟨g9, 1, none⟩ = some (.int .i64 m1) from ⟨k90, k91⟩)
          have HBD0 := Aside0.mk (show Below w.heap.size w wr.drew from HB.out.drew)
          clear hm0 hm1 hm2 hpl hp8 hs1 hs2 q1 q3 q4 hl0 hl1 hl3 hl4 hr t0 t1 t2 cut0r cut1r cut3r cut4r cut0l cut1l cut3l cut4l k90 k91 k92 hg9 hg10
          go_region_held3 (fun W' => W'.cell? ⟨g9, 0, none⟩ = some (.int .i64 m0) ∧ W'.cell? ⟨g9, 1, none⟩ = some (.int .i64 m1)) (first | (with_reducible exact HS.out) | (with_reducible exact HS3.out) | (with_reducible exact HS4.out) | (with_reducible exact HS5.out _) | (go_keep))
            (first
              | (go_at_call 38; refine (HCL0.out _ HBD0.out).mono ?_; rintro e w3 ⟨v3, rfl, hR, hb⟩; have HO3 := Aside0.mk (Kd.R_lower hR HBD0.out.size); have HB3 := Aside0.mk (HBD0.out.trans (hb.mono HBD0.out.size)); have B93 := Aside0.mk (blk_below (blk_drew B9'.out) hb); have B103 := Aside0.mk (blk_below (blk_drew B10.out) hb); have B63 := Aside0.mk (blk_below (blk_drew B6.out) hb); have HS3 := Aside0.mk (show w3.cell? ⟨g9, 0, none⟩ = some (.int .i64 m0) ∧ w3.cell? ⟨g9, 1, none⟩ = some (.int .i64 m1) from ⟨(blk_cell B93.out 0).trans rfl, (blk_cell B93.out 1).trans rfl⟩); clear hR hb)
              | (refine Kd.R_append_rows_step (Kd.int .u8) (w0 := w) w.heap.size (by rfl) (.tmp 75) (.tmp 79) 23 5 (.int .u8 0) 1 rfl Try.underlying23 info5 rfl (by decide) (by omega) v3 (last.take n0) (b'.take n1) A' n1 c' (fun _ => True) (fun _ => False) (by rfl) (by rfl) HO3.out (HA1.out _ HB3.out) (fun _ _ h => h) (fun _ h => h.elim) (fun _ _ => trivial) HB3.out HB3.out.size HLIM.out ?_; intro v4 w4 ho hb hg hat; obtain ⟨A5, c5, hv5⟩ := Kd.R_slice ho; rw [HL5.out] at hv5; subst hv5; have HO4 := Aside0.mk ho; have HB4 := Aside0.mk hb; have B94 := Aside0.mk (blk_grown B93.out hg (Kd.R_ne HO3.out B93.out (by decide))); have hb10 := blk_grown B103.out hg (Kd.R_ne HO3.out B103.out (by decide)); have hca : w4.cell? ⟨g10, 0, none⟩ = some (.slice none 0 0) := (blk_cell hb10 0).trans rfl; have hfa : w4.frozen? ⟨g10, 0, none⟩ = false := blk_frozen hb10 0; have B104 := Aside0.mk hb10; have B64 := Aside0.mk (blk_grown B63.out hg (Kd.R_ne HO3.out B63.out (by decide))); have HS4 := Aside0.mk (show w4.cell? ⟨g9, 0, none⟩ = some (.int .i64 m0) ∧ w4.cell? ⟨g9, 1, none⟩ = some (.int .i64 m1) from ⟨(blk_cell B94.out 0).trans rfl, (blk_cell B94.out 1).trans rfl⟩); have HS5 := Aside0.mk (show ∀ v : Value, (w4.setCell ⟨g10, 0, none⟩ v).cell? ⟨g9, 0, none⟩ = some (.int .i64 m0) ∧ (w4.setCell ⟨g10, 0, none⟩ v).cell? ⟨g9, 1, none⟩ = some (.int .i64 m1) from fun v => ⟨(blk_cell (blk_far B94.out (by have := HG.out; show g9 ≠ g10; omega) v) 0).trans rfl, (blk_cell (blk_far B94.out (by have := HG.out; show g9 ≠ g10; omega) v) 1).trans rfl⟩); clear ho hb hg hat hb10))
          obtain ⟨w5, hw5⟩ : ∃ W, w4.setCell ⟨g10, 0, none⟩ (.slice A5 (n0 + n1) c5) = W := ⟨_, rfl⟩
          rw [hw5]
          have HO5 := Aside0.mk (hw5 ▸ Kd.R_set HO4.out B104.out HNEP.out 0 (.slice A5 (n0 + n1) c5))
          have HB5 := Aside0.mk (show Below w.heap.size w w5 from hw5 ▸ below_set HB4.out (by have := HG.out; omega))
          have hb9 := blk_far B94.out (p := ⟨g10, 0, none⟩) (by have := HG.out; show g9 ≠ g10; omega) (.slice A5 (n0 + n1) c5)
          have hb10 := blk_put B104.out 0 (.slice A5 (n0 + n1) c5) (cs' := #[.slice A5 (n0 + n1) c5, .slice none 0 0]) rfl
          have hb6 := blk_far B64.out (p := ⟨g10, 0, none⟩) (by have := HG.out; show w.heap.size ≠ g10; omega) (.slice A5 (n0 + n1) c5)
          rw [hw5] at hb9 hb10 hb6
          have B95 := Aside0.mk hb9
          have B105 := Aside0.mk hb10
          have B65 := Aside0.mk hb6
          have k90 : w5.cell? ⟨g9, 0, none⟩ = some (.int .i64 m0) := (blk_cell hb9 0).trans rfl
          have k91 : w5.cell? ⟨g9, 1, none⟩ = some (.int .i64 m1) := (blk_cell hb9 1).trans rfl
          have k92 : w5.cell? ⟨g9, 2, none⟩ = some (.int .i64 m2) := (blk_cell hb9 2).trans rfl
          clear hw5 hb9 hb10 hb6
          go_wp2_with (first
            | ((with_reducible refine gate_callee (f := 38) rfl ?_); refine goesL_ (some 91) rfl rfl Try.func38 (by kernel_rfl) rfl #[.slice A3 n2 (c' - n1)] rfl (by (try simp only [List.map_toArray, List.map_cons, List.map_nil]); first | done | rfl | (simp only [List.length_drop, List.length_take]; rfl)) ?_; refine (HCL3.out _ HB5.out).mono ?_; rintro e w6 ⟨v6, rfl, hR, hb⟩; obtain ⟨A6, c6, hv6⟩ := Kd.R_slice hR; rw [HL.out.2.2.1] at hv6; subst hv6; have HO6 := Aside0.mk (Kd.R_mono (Kd.R_lower (Kd.R_new' hR (Kd.R_lt HO5.out)) HB5.out.size) (fun _ h_ => h_.2)); have HO56 := Aside0.mk (Kd.R_below HO5.out hb); have HB6 := Aside0.mk (HB5.out.trans (hb.mono HB5.out.size)); have B96 := Aside0.mk (blk_below B95.out hb); have B106 := Aside0.mk (blk_below B105.out hb); have B66 := Aside0.mk (blk_below B65.out hb); have hcb : w6.cell? ⟨g10, 1, none⟩ = some (.slice none 0 0) := (blk_cell B106.out 1).trans rfl; have hfb : w6.frozen? ⟨g10, 1, none⟩ = false := blk_frozen B106.out 1; clear hR hb; refine ⟨_, rfl, ?_⟩))
          obtain ⟨w7, hw7⟩ : ∃ W, w6.setCell ⟨g10, 1, none⟩ (.slice A6 n2 c6) = W := ⟨_, rfl⟩
          rw [hw7]
          have HO7 := Aside0.mk (hw7 ▸ Kd.R_set HO6.out B106.out HNEP.out 1 (.slice A6 n2 c6))
          have HO57 := Aside0.mk (hw7 ▸ Kd.R_set HO56.out B106.out HNEP.out 1 (.slice A6 n2 c6))
          have HB7 := Aside0.mk (show Below w.heap.size w w7 from hw7 ▸ below_set HB6.out (by have := HG.out; omega))
          have hb9 := blk_far B96.out (p := ⟨g10, 1, none⟩) (by have := HG.out; show g9 ≠ g10; omega) (.slice A6 n2 c6)
          have hb10 := blk_put B106.out 1 (.slice A6 n2 c6) (cs' := #[.slice A5 (n0 + n1) c5, .slice A6 n2 c6]) rfl
          have hb6 := blk_far B66.out (p := ⟨g10, 1, none⟩) (by have := HG.out; show w.heap.size ≠ g10; omega) (.slice A6 n2 c6)
          rw [hw7] at hb9 hb10 hb6
          clear k90 k91 k92
          have B97 := Aside0.mk hb9
          have B107 := Aside0.mk hb10
          have B67 := Aside0.mk hb6
          have k90 : w7.cell? ⟨g9, 0, none⟩ = some (.int .i64 m0) := (blk_cell hb9 0).trans rfl
          have k91 : w7.cell? ⟨g9, 1, none⟩ = some (.int .i64 m1) := (blk_cell hb9 1).trans rfl
          have k92 : w7.cell? ⟨g9, 2, none⟩ = some (.int .i64 m2) := (blk_cell hb9 2).trans rfl
          have ka0 : w7.cell? ⟨g10, 0, none⟩ = some (.slice A5 (n0 + n1) c5) := (blk_cell hb10 0).trans rfl
          have ka1 : w7.cell? ⟨g10, 1, none⟩ = some (.slice A6 n2 c6) := (blk_cell hb10 1).trans rfl
          have HBJ := HB7
          have BGJ := B67
          obtain ⟨key, hkey⟩ : ∃ x, last.take n0 ++ b'.take n1 = x := ⟨_, rfl⟩
          have hkl : key.length = n0 + n1 := by rw [← hkey]; exact HL5.out
          rw [hkey] at HO57
          obtain ⟨A5', c5', hv5, hc5, hC5⟩ := Kd.R_reads HO57.out
          rw [hkl] at hv5 hc5 hC5
          injection hv5 with hz1 hz2 hz3
          subst hz1
          subst hz3
          have hcm := fun n => cmp_quiet (c0 := c1) (c1 := c5) (Kd.C_below HR1.out HB7.out) HC1.out (by rw [hkl]; exact hC5) (by rw [hkl]; exact hc5) n
          have hcn := fun n => cmn_quiet (c0 := c1) (c1 := c5) (Kd.C_below HR1.out HB7.out) HC1.out (by rw [hkl]; exact hC5) (by rw [hkl]; exact hc5) (by have := HLL.out; omega) n
          rw [hkl] at hcm hcn
          obtain ⟨cc, hcc⟩ : ∃ c, cmpI last key = c := ⟨_, rfl⟩
          obtain ⟨cn, hcn2⟩ : ∃ c : Int, ((cmn last key : Nat) : Int) = c := ⟨_, rfl⟩
          rw [hcc] at hcm
          rw [hcn2] at hcn
          have HCM := Aside0.mk hcm
          have HCN := Aside0.mk hcn
          have HKEY := Aside0.mk (And.intro hkey (And.intro hcc hcn2))
          clear hw7 hb9 hb10 hb6 hkl hz2 hc5 hC5 hcm hcn hkey hcc hcn2
          by_cases u1 : 0 < place
          · have f1_ : decide (0 < pl) = true := decide_eq_true (by have := HMS.out; omega)
            by_cases u2 : 0 ≤ cc
            · have HNX := Aside0.mk (nextS_B HRD.out HWA.out (place := place) (last := last) (by obtain ⟨z1, z2, z3⟩ := HKEY.out; rw [z1]; unfold wrongB; rw [decide_eq_true u1, z2, decide_eq_true u2]; rfl))
              have f2_ : decide (0 ≤ cc) = true := decide_eq_true u2
              clear u1 u2
              go_quiet (first | (go_at_call 28; exact HCM.out _) | (go_at_call 14; exact HCN.out _))
              go_wp2
              go_step3
              exact ⟨⟨rfl, HNX.out, pw_below_drewN HBJ.out _, _, HGJ.out, blk_drewN BGJ.out _, rfl, rfl, rfl⟩, by rw [NxM]; decide⟩
            · have f2_ : decide (0 ≤ cc) = false := decide_eq_false u2
              by_cases u3 : 0 < place % 8
              · have f3_ : decide (0 < p8) = true := decide_eq_true (by have := HMS.out; omega)
                by_cases u4 : cmn last key = n0
                · have f4_ : (cn != m0) = false := by have := HMS.out; have := HKEY.out.2.2; rw [bne_eq_false_iff_eq]; omega
                  have HWB := Aside0.mk (show wrongB last (last.take n0 ++ b'.take n1) place n0 = false by obtain ⟨z1, z2, z3⟩ := HKEY.out; rw [z1]; unfold wrongB; rw [z2, decide_eq_false u2, u4]; simp)
                  clear u1 u2 u3 u4
                  go_quiet (first | (go_at_call 28; exact HCM.out _) | (go_at_call 14; exact HCN.out _))
                  go_wp2
                  obtain ⟨W8, hW8⟩ : ∃ W, w7.drewN nq = W := ⟨_, rfl⟩
                  rw [hW8]
                  have hb9 : W8.drew.heap[g9]? = some (.cells #[.int .i64 m0, .int .i64 m1, .int .i64 m2] 52 (0, 0)) := by rw [← hW8]; exact B97.out
                  have hb10 : W8.drew.heap[g10]? = some (.cells #[.slice A5 (n0 + n1) c5, .slice A6 n2 c6] 39 (0, 0)) := by rw [← hW8]; exact B107.out
                  have hb6 : W8.drew.heap[w.heap.size]? = some (.cells #[.slice none 0 0, .slice none 0 0] 39 (0, 0)) := by rw [← hW8]; exact B67.out
                  have HB8 := Aside0.mk (show Below w.heap.size w W8 by rw [← hW8]; exact pw_below_drewN HB7.out _)
                  have HO58 := Aside0.mk (show Kd.R (Kd.int .u8) 5 W8 w.heap.size (fun _ => True) (.slice A5 (n0 + n1) c5) key by rw [← hW8]; exact Kd.R_drewN HO57.out _)
                  have HO8 := Aside0.mk (show Kd.R (Kd.int .u8) 5 W8 w.heap.size (fun k => some k ≠ (Value.slice A5 (n0 + n1) c5).ownBlock) (.slice A6 n2 c6) ((b'.take (n1 + n2)).drop n1) by rw [← hW8]; exact Kd.R_drewN HO7.out _)
                  clear k90 k91 k92 ka0 ka1
                  have k91 : W8.drew.cell? ⟨g9, 1, none⟩ = some (.int .i64 m1) := (blk_cell hb9 1).trans rfl
                  have k92 : W8.drew.cell? ⟨g9, 2, none⟩ = some (.int .i64 m2) := (blk_cell hb9 2).trans rfl
                  have ka0 : W8.drew.cell? ⟨g10, 0, none⟩ = some (.slice A5 (n0 + n1) c5) := (blk_cell hb10 0).trans rfl
                  have ka1 : W8.drew.cell? ⟨g10, 1, none⟩ = some (.slice A6 n2 c6) := (blk_cell hb10 1).trans rfl
                  have k60 : W8.drew.cell? ⟨w.heap.size, 0, none⟩ = some (.slice none 0 0) := (blk_cell hb6 0).trans rfl
                  have k61 : W8.drew.cell? ⟨w.heap.size, 1, none⟩ = some (.slice none 0 0) := (blk_cell hb6 1).trans rfl
                  have f60 : W8.drew.frozen? ⟨w.heap.size, 0, none⟩ = false := blk_frozen hb6 0
                  have f61 : W8.drew.frozen? ⟨w.heap.size, 1, none⟩ = false := blk_frozen hb6 1
                  obtain ⟨g6, hg6⟩ : ∃ g, w.heap.size = g := ⟨_, rfl⟩
                  rw [hg6] at hb6 k60 k61 f60 f61 ⊢
                  have k91' : W8.cell? ⟨g9, 1, none⟩ = some (.int .i64 m1) := k91
                  have k92' : W8.cell? ⟨g9, 2, none⟩ = some (.int .i64 m2) := k92
                  have ka0' : W8.cell? ⟨g10, 0, none⟩ = some (.slice A5 (n0 + n1) c5) := ka0
                  have ka1' : W8.cell? ⟨g10, 1, none⟩ = some (.slice A6 n2 c6) := ka1
                  have k60' : W8.cell? ⟨g6, 0, none⟩ = some (.slice none 0 0) := k60
                  have k61' : W8.cell? ⟨g6, 1, none⟩ = some (.slice none 0 0) := k61
                  have f60' : W8.frozen? ⟨g6, 0, none⟩ = false := f60
                  have f61' : W8.frozen? ⟨g6, 1, none⟩ = false := f61
                  have B6L := Aside0.mk (show W8.heap[g6]? = some (.cells #[.slice none 0 0, .slice none 0 0] 39 (0, 0)) from hb6)
                  have HG6 := Aside0.mk hg6
                  have v2' : IntKind.i64.wrap (m1 + m2) = s2 := by rw [IntWalk.i64_left]; exact v2
                  have hne9 : g9 ≠ g6 := by have := HG.out; omega
                  have hne10 : g10 ≠ g6 := by have := HG.out; omega
                  clear hb9 hb10 hb6 hW8 hg6
                  go_region
                  go_wp2
                  simp only [jumpsTo]
                  refine bodyPost_ret (results_ctt rfl _ _ g6 39 #[.slice A5 (n0 + n1) c5, .slice A6 n2 c6] (0, 0) _ rfl (by refine blk_drew ?_; refine blk_put (cs := #[.slice A5 (n0 + n1) c5, .slice none 0 0]) ?_ 1 _ rfl; refine blk_put (cs := #[.slice none 0 0, .slice none 0 0]) ?_ 0 _ rfl; exact B6L.out) hu rfl (by kernel_rfl)) rfl ?_
                  unfold NxP
                  rw [nextS_ok HRD.out HWA.out HWB.out]
                  refine ⟨.slice A5 (n0 + n1) c5, .slice A6 n2 c6, A4, c' - (n1 + n2), by rw [HL.out.2.2.2.1]; rfl, ?_, ?_, ?_, ?_, ?_⟩
                  · have h_ := Kd.R_drew (Kd.R_set (Kd.R_set HO58.out B6L.out HNEP.out 0 (.slice A5 (n0 + n1) c5)) (blk_set B6L.out 0 _) HNEP.out 1 (.slice A6 n2 c6))
                    rw [← HKEY.out.1] at h_
                    exact h_
                  · exact Kd.R_drew (Kd.R_set (Kd.R_set HO8.out B6L.out HNEP.out 0 (.slice A5 (n0 + n1) c5)) (blk_set B6L.out 0 _) HNEP.out 1 (.slice A6 n2 c6))
                  · intro W hC
                    have h_ := HA4.out W hC
                    rw [HL.out.2.2.2.1]
                    exact h_
                  · rw [HL.out.2.2.2.1]; exact HL.out.2.2.2.2
                  · exact below_drew (below_set (below_set HB8.out (by have := HG6.out; omega)) (by have := HG6.out; omega))
                · have HNX := Aside0.mk (nextS_B HRD.out HWA.out (place := place) (last := last) (by obtain ⟨z1, z2, z3⟩ := HKEY.out; rw [z1]; unfold wrongB; rw [decide_eq_true u3, bne_iff_ne.2 u4]; simp))
                  have f4_ : (cn != m0) = true := by have := HMS.out; have := HKEY.out.2.2; rw [bne_iff_ne]; omega
                  clear u1 u2 u3 u4
                  go_quiet (first | (go_at_call 28; exact HCM.out _) | (go_at_call 14; exact HCN.out _))
                  go_wp2
                  go_step3
                  exact ⟨⟨rfl, HNX.out, pw_below_drewN HBJ.out _, _, HGJ.out, blk_drewN BGJ.out _, rfl, rfl, rfl⟩, by rw [NxM]; decide⟩
              · have f3_ : decide (0 < p8) = false := decide_eq_false (by have := HMS.out; omega)
                have HWB := Aside0.mk (show wrongB last (last.take n0 ++ b'.take n1) place n0 = false by obtain ⟨z1, z2, z3⟩ := HKEY.out; rw [z1]; unfold wrongB; rw [z2, decide_eq_false u2, decide_eq_false u3]; simp)
                clear u1 u2 u3
                go_quiet (first | (go_at_call 28; exact HCM.out _) | (go_at_call 14; exact HCN.out _))
                go_wp2
                obtain ⟨W8, hW8⟩ : ∃ W, w7.drewN nq = W := ⟨_, rfl⟩
                rw [hW8]
                have hb9 : W8.drew.heap[g9]? = some (.cells #[.int .i64 m0, .int .i64 m1, .int .i64 m2] 52 (0, 0)) := by rw [← hW8]; exact B97.out
                have hb10 : W8.drew.heap[g10]? = some (.cells #[.slice A5 (n0 + n1) c5, .slice A6 n2 c6] 39 (0, 0)) := by rw [← hW8]; exact B107.out
                have hb6 : W8.drew.heap[w.heap.size]? = some (.cells #[.slice none 0 0, .slice none 0 0] 39 (0, 0)) := by rw [← hW8]; exact B67.out
                have HB8 := Aside0.mk (show Below w.heap.size w W8 by rw [← hW8]; exact pw_below_drewN HB7.out _)
                have HO58 := Aside0.mk (show Kd.R (Kd.int .u8) 5 W8 w.heap.size (fun _ => True) (.slice A5 (n0 + n1) c5) key by rw [← hW8]; exact Kd.R_drewN HO57.out _)
                have HO8 := Aside0.mk (show Kd.R (Kd.int .u8) 5 W8 w.heap.size (fun k => some k ≠ (Value.slice A5 (n0 + n1) c5).ownBlock) (.slice A6 n2 c6) ((b'.take (n1 + n2)).drop n1) by rw [← hW8]; exact Kd.R_drewN HO7.out _)
                clear k90 k91 k92 ka0 ka1
                have k91 : W8.drew.cell? ⟨g9, 1, none⟩ = some (.int .i64 m1) := (blk_cell hb9 1).trans rfl
                have k92 : W8.drew.cell? ⟨g9, 2, none⟩ = some (.int .i64 m2) := (blk_cell hb9 2).trans rfl
                have ka0 : W8.drew.cell? ⟨g10, 0, none⟩ = some (.slice A5 (n0 + n1) c5) := (blk_cell hb10 0).trans rfl
                have ka1 : W8.drew.cell? ⟨g10, 1, none⟩ = some (.slice A6 n2 c6) := (blk_cell hb10 1).trans rfl
                have k60 : W8.drew.cell? ⟨w.heap.size, 0, none⟩ = some (.slice none 0 0) := (blk_cell hb6 0).trans rfl
                have k61 : W8.drew.cell? ⟨w.heap.size, 1, none⟩ = some (.slice none 0 0) := (blk_cell hb6 1).trans rfl
                have f60 : W8.drew.frozen? ⟨w.heap.size, 0, none⟩ = false := blk_frozen hb6 0
                have f61 : W8.drew.frozen? ⟨w.heap.size, 1, none⟩ = false := blk_frozen hb6 1
                obtain ⟨g6, hg6⟩ : ∃ g, w.heap.size = g := ⟨_, rfl⟩
                rw [hg6] at hb6 k60 k61 f60 f61 ⊢
                have k91' : W8.cell? ⟨g9, 1, none⟩ = some (.int .i64 m1) := k91
                have k92' : W8.cell? ⟨g9, 2, none⟩ = some (.int .i64 m2) := k92
                have ka0' : W8.cell? ⟨g10, 0, none⟩ = some (.slice A5 (n0 + n1) c5) := ka0
                have ka1' : W8.cell? ⟨g10, 1, none⟩ = some (.slice A6 n2 c6) := ka1
                have k60' : W8.cell? ⟨g6, 0, none⟩ = some (.slice none 0 0) := k60
                have k61' : W8.cell? ⟨g6, 1, none⟩ = some (.slice none 0 0) := k61
                have f60' : W8.frozen? ⟨g6, 0, none⟩ = false := f60
                have f61' : W8.frozen? ⟨g6, 1, none⟩ = false := f61
                have B6L := Aside0.mk (show W8.heap[g6]? = some (.cells #[.slice none 0 0, .slice none 0 0] 39 (0, 0)) from hb6)
                have HG6 := Aside0.mk hg6
                have v2' : IntKind.i64.wrap (m1 + m2) = s2 := by rw [IntWalk.i64_left]; exact v2
                have hne9 : g9 ≠ g6 := by have := HG.out; omega
                have hne10 : g10 ≠ g6 := by have := HG.out; omega
                clear hb9 hb10 hb6 hW8 hg6
                go_region
                go_wp2
                simp only [jumpsTo]
                refine bodyPost_ret (results_ctt rfl _ _ g6 39 #[.slice A5 (n0 + n1) c5, .slice A6 n2 c6] (0, 0) _ rfl (by refine blk_drew ?_; refine blk_put (cs := #[.slice A5 (n0 + n1) c5, .slice none 0 0]) ?_ 1 _ rfl; refine blk_put (cs := #[.slice none 0 0, .slice none 0 0]) ?_ 0 _ rfl; exact B6L.out) hu rfl (by kernel_rfl)) rfl ?_
                unfold NxP
                rw [nextS_ok HRD.out HWA.out HWB.out]
                refine ⟨.slice A5 (n0 + n1) c5, .slice A6 n2 c6, A4, c' - (n1 + n2), by rw [HL.out.2.2.2.1]; rfl, ?_, ?_, ?_, ?_, ?_⟩
                · have h_ := Kd.R_drew (Kd.R_set (Kd.R_set HO58.out B6L.out HNEP.out 0 (.slice A5 (n0 + n1) c5)) (blk_set B6L.out 0 _) HNEP.out 1 (.slice A6 n2 c6))
                  rw [← HKEY.out.1] at h_
                  exact h_
                · exact Kd.R_drew (Kd.R_set (Kd.R_set HO8.out B6L.out HNEP.out 0 (.slice A5 (n0 + n1) c5)) (blk_set B6L.out 0 _) HNEP.out 1 (.slice A6 n2 c6))
                · intro W hC
                  have h_ := HA4.out W hC
                  rw [HL.out.2.2.2.1]
                  exact h_
                · rw [HL.out.2.2.2.1]; exact HL.out.2.2.2.2
                · exact below_drew (below_set (below_set HB8.out (by have := HG6.out; omega)) (by have := HG6.out; omega))
          · have f1_ : decide (0 < pl) = false := decide_eq_false (by have := HMS.out; omega)
            have f3_ : decide (0 < p8) = false := decide_eq_false (by have := HMS.out; omega)
            have HWB := Aside0.mk (show wrongB last (last.take n0 ++ b'.take n1) place n0 = false by unfold wrongB; rw [decide_eq_false u1, decide_eq_false (show ¬ 0 < place % 8 by omega)]; rfl)
            clear u1
            go_quiet (first | (go_at_call 28; exact HCM.out _) | (go_at_call 14; exact HCN.out _))
            go_wp2
            obtain ⟨W8, hW8⟩ : ∃ W, w7.drewN nq = W := ⟨_, rfl⟩
            rw [hW8]
            have hb9 : W8.drew.heap[g9]? = some (.cells #[.int .i64 m0, .int .i64 m1, .int .i64 m2] 52 (0, 0)) := by rw [← hW8]; exact B97.out
            have hb10 : W8.drew.heap[g10]? = some (.cells #[.slice A5 (n0 + n1) c5, .slice A6 n2 c6] 39 (0, 0)) := by rw [← hW8]; exact B107.out
            have hb6 : W8.drew.heap[w.heap.size]? = some (.cells #[.slice none 0 0, .slice none 0 0] 39 (0, 0)) := by rw [← hW8]; exact B67.out
            have HB8 := Aside0.mk (show Below w.heap.size w W8 by rw [← hW8]; exact pw_below_drewN HB7.out _)
            have HO58 := Aside0.mk (show Kd.R (Kd.int .u8) 5 W8 w.heap.size (fun _ => True) (.slice A5 (n0 + n1) c5) key by rw [← hW8]; exact Kd.R_drewN HO57.out _)
            have HO8 := Aside0.mk (show Kd.R (Kd.int .u8) 5 W8 w.heap.size (fun k => some k ≠ (Value.slice A5 (n0 + n1) c5).ownBlock) (.slice A6 n2 c6) ((b'.take (n1 + n2)).drop n1) by rw [← hW8]; exact Kd.R_drewN HO7.out _)
            clear k90 k91 k92 ka0 ka1
            have k91 : W8.drew.cell? ⟨g9, 1, none⟩ = some (.int .i64 m1) := (blk_cell hb9 1).trans rfl
            have k92 : W8.drew.cell? ⟨g9, 2, none⟩ = some (.int .i64 m2) := (blk_cell hb9 2).trans rfl
            have ka0 : W8.drew.cell? ⟨g10, 0, none⟩ = some (.slice A5 (n0 + n1) c5) := (blk_cell hb10 0).trans rfl
            have ka1 : W8.drew.cell? ⟨g10, 1, none⟩ = some (.slice A6 n2 c6) := (blk_cell hb10 1).trans rfl
            have k60 : W8.drew.cell? ⟨w.heap.size, 0, none⟩ = some (.slice none 0 0) := (blk_cell hb6 0).trans rfl
            have k61 : W8.drew.cell? ⟨w.heap.size, 1, none⟩ = some (.slice none 0 0) := (blk_cell hb6 1).trans rfl
            have f60 : W8.drew.frozen? ⟨w.heap.size, 0, none⟩ = false := blk_frozen hb6 0
            have f61 : W8.drew.frozen? ⟨w.heap.size, 1, none⟩ = false := blk_frozen hb6 1
            obtain ⟨g6, hg6⟩ : ∃ g, w.heap.size = g := ⟨_, rfl⟩
            rw [hg6] at hb6 k60 k61 f60 f61 ⊢
            have k91' : W8.cell? ⟨g9, 1, none⟩ = some (.int .i64 m1) := k91
            have k92' : W8.cell? ⟨g9, 2, none⟩ = some (.int .i64 m2) := k92
            have ka0' : W8.cell? ⟨g10, 0, none⟩ = some (.slice A5 (n0 + n1) c5) := ka0
            have ka1' : W8.cell? ⟨g10, 1, none⟩ = some (.slice A6 n2 c6) := ka1
            have k60' : W8.cell? ⟨g6, 0, none⟩ = some (.slice none 0 0) := k60
            have k61' : W8.cell? ⟨g6, 1, none⟩ = some (.slice none 0 0) := k61
            have f60' : W8.frozen? ⟨g6, 0, none⟩ = false := f60
            have f61' : W8.frozen? ⟨g6, 1, none⟩ = false := f61
            have B6L := Aside0.mk (show W8.heap[g6]? = some (.cells #[.slice none 0 0, .slice none 0 0] 39 (0, 0)) from hb6)
            have HG6 := Aside0.mk hg6
            have v2' : IntKind.i64.wrap (m1 + m2) = s2 := by rw [IntWalk.i64_left]; exact v2
            have hne9 : g9 ≠ g6 := by have := HG.out; omega
            have hne10 : g10 ≠ g6 := by have := HG.out; omega
            clear hb9 hb10 hb6 hW8 hg6
            go_region
            go_wp2
            simp only [jumpsTo]
            refine bodyPost_ret (results_ctt rfl _ _ g6 39 #[.slice A5 (n0 + n1) c5, .slice A6 n2 c6] (0, 0) _ rfl (by refine blk_drew ?_; refine blk_put (cs := #[.slice A5 (n0 + n1) c5, .slice none 0 0]) ?_ 1 _ rfl; refine blk_put (cs := #[.slice none 0 0, .slice none 0 0]) ?_ 0 _ rfl; exact B6L.out) hu rfl (by kernel_rfl)) rfl ?_
            unfold NxP
            rw [nextS_ok HRD.out HWA.out HWB.out]
            refine ⟨.slice A5 (n0 + n1) c5, .slice A6 n2 c6, A4, c' - (n1 + n2), by rw [HL.out.2.2.2.1]; rfl, ?_, ?_, ?_, ?_, ?_⟩
            · have h_ := Kd.R_drew (Kd.R_set (Kd.R_set HO58.out B6L.out HNEP.out 0 (.slice A5 (n0 + n1) c5)) (blk_set B6L.out 0 _) HNEP.out 1 (.slice A6 n2 c6))
              rw [← HKEY.out.1] at h_
              exact h_
            · exact Kd.R_drew (Kd.R_set (Kd.R_set HO8.out B6L.out HNEP.out 0 (.slice A5 (n0 + n1) c5)) (blk_set B6L.out 0 _) HNEP.out 1 (.slice A6 n2 c6))
            · intro W hC
              have h_ := HA4.out W hC
              rw [HL.out.2.2.2.1]
              exact h_
            · rw [HL.out.2.2.2.1]; exact HL.out.2.2.2.2
            · exact below_drew (below_set (below_set HB8.out (by have := HG6.out; omega)) (by have := HG6.out; omega))
        | false =>
          clear hb0
          (try clear hm0 hm1 hm2 hpl hp8 hs1 hs2)
          (try clear h0 h1 h2 hle hrd)
          (try clear hplb hb')
          (try clear q1)
          (try clear q2)
          (try clear q3)
          (try clear q4)
          (try clear hw2)
          (try clear hj hj3 hBy)
          go_wp2
          obtain ⟨hm0, hm1, hm2, hpl, hp8, hs1, hs2⟩ := HMS.out
          obtain ⟨q1, q3, q4⟩ := HQ.out
          have hl0 : (last.take n0).length = n0 := by rw [List.length_take]; omega
          have hl1 : (b'.take n1).length = n1 := by rw [List.length_take]; omega
          have hl3 : ((b'.take (n1 + n2)).drop n1).length = n2 := by rw [List.length_drop, List.length_take]; omega
          obtain ⟨r, hr⟩ : ∃ r, b'.length - (n1 + n2) = r := ⟨_, rfl⟩
          have hl4 : (b'.drop (n1 + n2)).length = r := by rw [List.length_drop, hr]
          have t0 : m0.toNat = n0 := by omega
          have t1 : m1.toNat = n1 := by omega
          have t2 : s2.toNat = n1 + n2 := by omega
          obtain ⟨cut0, cut0r, cut0l⟩ := print_take_of (P := Try.prog) (Value.int .u8) (0 : Int) 23 5 .i64 Try.underlying23 HI5.out.1 HI5.out.2 A1 c1 last m0 (by omega) (by omega) HC1.out
          obtain ⟨cut1, cut1r, cut1l⟩ := print_take_of (P := Try.prog) (Value.int .u8) (0 : Int) 23 5 .i64 Try.underlying23 HI5.out.1 HI5.out.2 A' c' b' m1 (by omega) (by omega) HLE.out
          obtain ⟨A3, cut3, cut3r, cut3l⟩ := print_mid_of (P := Try.prog) (Value.int .u8) (0 : Int) 23 5 .i64 .i64 Try.underlying23 HI5.out.1 HI5.out.2 A' c' b' m1 s2 (by omega) (by omega) (by omega) HLE.out
          obtain ⟨A4, cut4, cut4r, cut4l⟩ := print_drop_of (P := Try.prog) (Value.int .u8) (0 : Int) 23 5 .i64 Try.underlying23 HI5.out.1 HI5.out.2 A' c' b' s2 (by omega) (by omega) HLE.out
          rw [t0, hl0] at cut0 cut0r
          rw [t0, hl0] at cut0l
          rw [t1, hl1] at cut1 cut1r
          rw [t1, t2, hl3] at cut3 cut3r cut3l
          rw [t2, hl4] at cut4 cut4r cut4l
          have HA0 := Aside0.mk (show ∀ W, Below w.heap.size w W → Kd.C (Kd.int .u8) W A1 n0 (last.take n0) from fun W hb => Kd.C_of_reads (d := (0 : Int)) (h1 := fun _ => rfl) (cut0r W (Kd.reads_of_C (Kd.C_below HR1.out hb))))
          have HA1 := Aside0.mk (show ∀ W, Below w.heap.size w W → Kd.C (Kd.int .u8) W A' n1 (b'.take n1) from fun W hb => Kd.C_of_reads (d := (0 : Int)) (h1 := fun _ => rfl) (cut1r W (Kd.reads_of_C (HA.out W (Kd.C_below HR.out hb)))))
          have HA3 := Aside0.mk (show ∀ W, Below w.heap.size w W → Kd.C (Kd.int .u8) W A3 n2 ((b'.take (n1 + n2)).drop n1) from fun W hb => Kd.C_of_reads (d := (0 : Int)) (h1 := fun _ => rfl) (cut3r W (Kd.reads_of_C (HA.out W (Kd.C_below HR.out hb)))))
          have HA4 := Aside0.mk (show ∀ W, Kd.C (Kd.int .u8) W A b.length b → Kd.C (Kd.int .u8) W A4 r (b'.drop (n1 + n2)) from fun W hC => Kd.C_of_reads (d := (0 : Int)) (h1 := fun _ => rfl) (cut4r W (Kd.reads_of_C (HA.out W hC))))
          have HCL0 := Aside0.mk (show ∀ W, Below w.heap.size w W → Calls Try.prog 38 #[.slice A1 n0 c1] W fun e w' => ∃ v, e = .returned v ∧ Kd.R (Kd.int .u8) 5 w' W.heap.size (fun _ => True) v (last.take n0) ∧ Below W.heap.size W w' from fun W hb => by
            have h_ := slices_Clone_byte_byte.calls A1 c1 (last.take n0) (last.take n0) W (by rw [hl0]; exact HA0.out W hb) (by rw [hl0]; exact cut0l) (by unfold slices_Clone_byte_byte.f; rw [if_pos (by rw [hl0]; have := HBD.out.1; omega)])
            rw [hl0] at h_; exact h_)
          have HCL3 := Aside0.mk (show ∀ W, Below w.heap.size w W → Calls Try.prog 38 #[.slice A3 n2 (c' - n1)] W fun e w' => ∃ v, e = .returned v ∧ Kd.R (Kd.int .u8) 5 w' W.heap.size (fun _ => True) v ((b'.take (n1 + n2)).drop n1) ∧ Below W.heap.size W w' from fun W hb => by
            have h_ := slices_Clone_byte_byte.calls A3 (c' - n1) ((b'.take (n1 + n2)).drop n1) ((b'.take (n1 + n2)).drop n1) W (by rw [hl3]; exact HA3.out W hb) (by rw [hl3]; exact cut3l) (by unfold slices_Clone_byte_byte.f; rw [if_pos (by rw [hl3]; have := HBD.out.2.2; omega)])
            rw [hl3] at h_; exact h_)
          have HL := Aside0.mk (And.intro hl0 (And.intro hl1 (And.intro hl3 (And.intro hl4 cut4l))))
          have HNEP := Aside0.mk (show ∀ q, q ∈ 5 :: (Kd.int .u8).E → q ≠ 39 by decide)
          have HL5 := Aside0.mk (show (last.take n0 ++ b'.take n1).length = n0 + n1 by rw [List.length_append, hl0, hl1])
          have HLIM := Aside0.mk (show ((last.take n0).length + n1) * 1 ≤ 140737488355328 by rw [hl0]; have := HBD.out; omega)
          obtain ⟨g9, hg9⟩ : ∃ g, w.heap.size + 1 = g := ⟨_, rfl⟩
          obtain ⟨g10, hg10⟩ : ∃ g, w.heap.size + 1 + 1 = g := ⟨_, rfl⟩
          have HG := Aside0.mk (show w.heap.size < g9 ∧ g9 < g10 by omega)
          rw [hg10] at B10 ⊢
          rw [hg9] at B9' k90 k91 k92 ⊢
          have HS := Aside0.mk (show wr.drew.cell? ⟨g9, 0, none⟩ = some (.int .i64 m0) ∧ wr.drew.cell? ⟨g9, 1, none⟩ = some (.int .i64 m1) from ⟨k90, k91⟩)
          have HBD0 := Aside0.mk (show Below w.heap.size w wr.drew from HB.out.drew)
          clear hm0 hm1 hm2 hpl hp8 hs1 hs2 q1 q3 q4 hl0 hl1 hl3 hl4 hr t0 t1 t2 cut0r cut1r cut3r cut4r cut0l cut1l cut3l cut4l k90 k91 k92 hg9 hg10
          go_region_held3 (fun W' => W'.cell? ⟨g9, 0, none⟩ = some (.int .i64 m0) ∧ W'.cell? ⟨g9, 1, none⟩ = some (.int .i64 m1)) (first | (with_reducible exact HS.out) | (with_reducible exact HS3.out) | (with_reducible exact HS4.out) | (with_reducible exact HS5.out _) | (go_keep))
            (first
              | (go_at_call 38; refine (HCL0.out _ HBD0.out).mono ?_; rintro e w3 ⟨v3, rfl, hR, hb⟩; have HO3 := Aside0.mk (Kd.R_lower hR HBD0.out.size); have HB3 := Aside0.mk (HBD0.out.trans (hb.mono HBD0.out.size)); have B93 := Aside0.mk (blk_below (blk_drew B9'.out) hb); have B103 := Aside0.mk (blk_below (blk_drew B10.out) hb); have B63 := Aside0.mk (blk_below (blk_drew B6.out) hb); have HS3 := Aside0.mk (show w3.cell? ⟨g9, 0, none⟩ = some (.int .i64 m0) ∧ w3.cell? ⟨g9, 1, none⟩ = some (.int .i64 m1) from ⟨(blk_cell B93.out 0).trans rfl, (blk_cell B93.out 1).trans rfl⟩); clear hR hb)
              | (refine Kd.R_append_rows_step (Kd.int .u8) (w0 := w) w.heap.size (by rfl) (.tmp 75) (.tmp 79) 23 5 (.int .u8 0) 1 rfl Try.underlying23 info5 rfl (by decide) (by omega) v3 (last.take n0) (b'.take n1) A' n1 c' (fun _ => True) (fun _ => False) (by rfl) (by rfl) HO3.out (HA1.out _ HB3.out) (fun _ _ h => h) (fun _ h => h.elim) (fun _ _ => trivial) HB3.out HB3.out.size HLIM.out ?_; intro v4 w4 ho hb hg hat; obtain ⟨A5, c5, hv5⟩ := Kd.R_slice ho; rw [HL5.out] at hv5; subst hv5; have HO4 := Aside0.mk ho; have HB4 := Aside0.mk hb; have B94 := Aside0.mk (blk_grown B93.out hg (Kd.R_ne HO3.out B93.out (by decide))); have hb10 := blk_grown B103.out hg (Kd.R_ne HO3.out B103.out (by decide)); have hca : w4.cell? ⟨g10, 0, none⟩ = some (.slice none 0 0) := (blk_cell hb10 0).trans rfl; have hfa : w4.frozen? ⟨g10, 0, none⟩ = false := blk_frozen hb10 0; have B104 := Aside0.mk hb10; have B64 := Aside0.mk (blk_grown B63.out hg (Kd.R_ne HO3.out B63.out (by decide))); have HS4 := Aside0.mk (show w4.cell? ⟨g9, 0, none⟩ = some (.int .i64 m0) ∧ w4.cell? ⟨g9, 1, none⟩ = some (.int .i64 m1) from ⟨(blk_cell B94.out 0).trans rfl, (blk_cell B94.out 1).trans rfl⟩); have HS5 := Aside0.mk (show ∀ v : Value, (w4.setCell ⟨g10, 0, none⟩ v).cell? ⟨g9, 0, none⟩ = some (.int .i64 m0) ∧ (w4.setCell ⟨g10, 0, none⟩ v).cell? ⟨g9, 1, none⟩ = some (.int .i64 m1) from fun v => ⟨(blk_cell (blk_far B94.out (by have := HG.out; show g9 ≠ g10; omega) v) 0).trans rfl, (blk_cell (blk_far B94.out (by have := HG.out; show g9 ≠ g10; omega) v) 1).trans rfl⟩); clear ho hb hg hat hb10))
          obtain ⟨w5, hw5⟩ : ∃ W, w4.setCell ⟨g10, 0, none⟩ (.slice A5 (n0 + n1) c5) = W := ⟨_, rfl⟩
          rw [hw5]
          have HO5 := Aside0.mk (hw5 ▸ Kd.R_set HO4.out B104.out HNEP.out 0 (.slice A5 (n0 + n1) c5))
          have HB5 := Aside0.mk (show Below w.heap.size w w5 from hw5 ▸ below_set HB4.out (by have := HG.out; omega))
          have hb9 := blk_far B94.out (p := ⟨g10, 0, none⟩) (by have := HG.out; show g9 ≠ g10; omega) (.slice A5 (n0 + n1) c5)
          have hb10 := blk_put B104.out 0 (.slice A5 (n0 + n1) c5) (cs' := #[.slice A5 (n0 + n1) c5, .slice none 0 0]) rfl
          have hb6 := blk_far B64.out (p := ⟨g10, 0, none⟩) (by have := HG.out; show w.heap.size ≠ g10; omega) (.slice A5 (n0 + n1) c5)
          rw [hw5] at hb9 hb10 hb6
          have B95 := Aside0.mk hb9
          have B105 := Aside0.mk hb10
          have B65 := Aside0.mk hb6
          have k90 : w5.cell? ⟨g9, 0, none⟩ = some (.int .i64 m0) := (blk_cell hb9 0).trans rfl
          have k91 : w5.cell? ⟨g9, 1, none⟩ = some (.int .i64 m1) := (blk_cell hb9 1).trans rfl
          have k92 : w5.cell? ⟨g9, 2, none⟩ = some (.int .i64 m2) := (blk_cell hb9 2).trans rfl
          clear hw5 hb9 hb10 hb6
          go_wp2_with (first
            | ((with_reducible refine gate_callee (f := 38) rfl ?_); refine goesL_ (some 91) rfl rfl Try.func38 (by kernel_rfl) rfl #[.slice A3 n2 (c' - n1)] rfl (by (try simp only [List.map_toArray, List.map_cons, List.map_nil]); first | done | rfl | (simp only [List.length_drop, List.length_take]; rfl)) ?_; refine (HCL3.out _ HB5.out).mono ?_; rintro e w6 ⟨v6, rfl, hR, hb⟩; obtain ⟨A6, c6, hv6⟩ := Kd.R_slice hR; rw [HL.out.2.2.1] at hv6; subst hv6; have HO6 := Aside0.mk (Kd.R_mono (Kd.R_lower (Kd.R_new' hR (Kd.R_lt HO5.out)) HB5.out.size) (fun _ h_ => h_.2)); have HO56 := Aside0.mk (Kd.R_below HO5.out hb); have HB6 := Aside0.mk (HB5.out.trans (hb.mono HB5.out.size)); have B96 := Aside0.mk (blk_below B95.out hb); have B106 := Aside0.mk (blk_below B105.out hb); have B66 := Aside0.mk (blk_below B65.out hb); have hcb : w6.cell? ⟨g10, 1, none⟩ = some (.slice none 0 0) := (blk_cell B106.out 1).trans rfl; have hfb : w6.frozen? ⟨g10, 1, none⟩ = false := blk_frozen B106.out 1; clear hR hb; refine ⟨_, rfl, ?_⟩))
          obtain ⟨w7, hw7⟩ : ∃ W, w6.setCell ⟨g10, 1, none⟩ (.slice A6 n2 c6) = W := ⟨_, rfl⟩
          rw [hw7]
          have HO7 := Aside0.mk (hw7 ▸ Kd.R_set HO6.out B106.out HNEP.out 1 (.slice A6 n2 c6))
          have HO57 := Aside0.mk (hw7 ▸ Kd.R_set HO56.out B106.out HNEP.out 1 (.slice A6 n2 c6))
          have HB7 := Aside0.mk (show Below w.heap.size w w7 from hw7 ▸ below_set HB6.out (by have := HG.out; omega))
          have hb9 := blk_far B96.out (p := ⟨g10, 1, none⟩) (by have := HG.out; show g9 ≠ g10; omega) (.slice A6 n2 c6)
          have hb10 := blk_put B106.out 1 (.slice A6 n2 c6) (cs' := #[.slice A5 (n0 + n1) c5, .slice A6 n2 c6]) rfl
          have hb6 := blk_far B66.out (p := ⟨g10, 1, none⟩) (by have := HG.out; show w.heap.size ≠ g10; omega) (.slice A6 n2 c6)
          rw [hw7] at hb9 hb10 hb6
          clear k90 k91 k92
          have B97 := Aside0.mk hb9
          have B107 := Aside0.mk hb10
          have B67 := Aside0.mk hb6
          have k90 : w7.cell? ⟨g9, 0, none⟩ = some (.int .i64 m0) := (blk_cell hb9 0).trans rfl
          have k91 : w7.cell? ⟨g9, 1, none⟩ = some (.int .i64 m1) := (blk_cell hb9 1).trans rfl
          have k92 : w7.cell? ⟨g9, 2, none⟩ = some (.int .i64 m2) := (blk_cell hb9 2).trans rfl
          have ka0 : w7.cell? ⟨g10, 0, none⟩ = some (.slice A5 (n0 + n1) c5) := (blk_cell hb10 0).trans rfl
          have ka1 : w7.cell? ⟨g10, 1, none⟩ = some (.slice A6 n2 c6) := (blk_cell hb10 1).trans rfl
          have HBJ := HB7
          have BGJ := B67
          obtain ⟨key, hkey⟩ : ∃ x, last.take n0 ++ b'.take n1 = x := ⟨_, rfl⟩
          have hkl : key.length = n0 + n1 := by rw [← hkey]; exact HL5.out
          rw [hkey] at HO57
          obtain ⟨A5', c5', hv5, hc5, hC5⟩ := Kd.R_reads HO57.out
          rw [hkl] at hv5 hc5 hC5
          injection hv5 with hz1 hz2 hz3
          subst hz1
          subst hz3
          have hcm := fun n => cmp_quiet (c0 := c1) (c1 := c5) (Kd.C_below HR1.out HB7.out) HC1.out (by rw [hkl]; exact hC5) (by rw [hkl]; exact hc5) n
          have hcn := fun n => cmn_quiet (c0 := c1) (c1 := c5) (Kd.C_below HR1.out HB7.out) HC1.out (by rw [hkl]; exact hC5) (by rw [hkl]; exact hc5) (by have := HLL.out; omega) n
          rw [hkl] at hcm hcn
          obtain ⟨cc, hcc⟩ : ∃ c, cmpI last key = c := ⟨_, rfl⟩
          obtain ⟨cn, hcn2⟩ : ∃ c : Int, ((cmn last key : Nat) : Int) = c := ⟨_, rfl⟩
          rw [hcc] at hcm
          rw [hcn2] at hcn
          have HCM := Aside0.mk hcm
          have HCN := Aside0.mk hcn
          have HKEY := Aside0.mk (And.intro hkey (And.intro hcc hcn2))
          clear hw7 hb9 hb10 hb6 hkl hz2 hc5 hC5 hcm hcn hkey hcc hcn2
          by_cases u1 : 0 < place
          · have f1_ : decide (0 < pl) = true := decide_eq_true (by have := HMS.out; omega)
            by_cases u2 : 0 ≤ cc
            · have HNX := Aside0.mk (nextS_B HRD.out HWA.out (place := place) (last := last) (by obtain ⟨z1, z2, z3⟩ := HKEY.out; rw [z1]; unfold wrongB; rw [decide_eq_true u1, z2, decide_eq_true u2]; rfl))
              have f2_ : decide (0 ≤ cc) = true := decide_eq_true u2
              clear u1 u2
              go_quiet (first | (go_at_call 28; exact HCM.out _) | (go_at_call 14; exact HCN.out _))
              go_wp2
              go_step3
              exact ⟨⟨rfl, HNX.out, pw_below_drewN HBJ.out _, _, HGJ.out, blk_drewN BGJ.out _, rfl, rfl, rfl⟩, by rw [NxM]; decide⟩
            · have f2_ : decide (0 ≤ cc) = false := decide_eq_false u2
              by_cases u3 : 0 < place % 8
              · have f3_ : decide (0 < p8) = true := decide_eq_true (by have := HMS.out; omega)
                by_cases u4 : cmn last key = n0
                · have f4_ : (cn != m0) = false := by have := HMS.out; have := HKEY.out.2.2; rw [bne_eq_false_iff_eq]; omega
                  have HWB := Aside0.mk (show wrongB last (last.take n0 ++ b'.take n1) place n0 = false by obtain ⟨z1, z2, z3⟩ := HKEY.out; rw [z1]; unfold wrongB; rw [z2, decide_eq_false u2, u4]; simp)
                  clear u1 u2 u3 u4
                  go_quiet (first | (go_at_call 28; exact HCM.out _) | (go_at_call 14; exact HCN.out _))
                  go_wp2
                  obtain ⟨W8, hW8⟩ : ∃ W, w7.drewN nq = W := ⟨_, rfl⟩
                  rw [hW8]
                  have hb9 : W8.drew.heap[g9]? = some (.cells #[.int .i64 m0, .int .i64 m1, .int .i64 m2] 52 (0, 0)) := by rw [← hW8]; exact B97.out
                  have hb10 : W8.drew.heap[g10]? = some (.cells #[.slice A5 (n0 + n1) c5, .slice A6 n2 c6] 39 (0, 0)) := by rw [← hW8]; exact B107.out
                  have hb6 : W8.drew.heap[w.heap.size]? = some (.cells #[.slice none 0 0, .slice none 0 0] 39 (0, 0)) := by rw [← hW8]; exact B67.out
                  have HB8 := Aside0.mk (show Below w.heap.size w W8 by rw [← hW8]; exact pw_below_drewN HB7.out _)
                  have HO58 := Aside0.mk (show Kd.R (Kd.int .u8) 5 W8 w.heap.size (fun _ => True) (.slice A5 (n0 + n1) c5) key by rw [← hW8]; exact Kd.R_drewN HO57.out _)
                  have HO8 := Aside0.mk (show Kd.R (Kd.int .u8) 5 W8 w.heap.size (fun k => some k ≠ (Value.slice A5 (n0 + n1) c5).ownBlock) (.slice A6 n2 c6) ((b'.take (n1 + n2)).drop n1) by rw [← hW8]; exact Kd.R_drewN HO7.out _)
                  clear k90 k91 k92 ka0 ka1
                  have k91 : W8.drew.cell? ⟨g9, 1, none⟩ = some (.int .i64 m1) := (blk_cell hb9 1).trans rfl
                  have k92 : W8.drew.cell? ⟨g9, 2, none⟩ = some (.int .i64 m2) := (blk_cell hb9 2).trans rfl
                  have ka0 : W8.drew.cell? ⟨g10, 0, none⟩ = some (.slice A5 (n0 + n1) c5) := (blk_cell hb10 0).trans rfl
                  have ka1 : W8.drew.cell? ⟨g10, 1, none⟩ = some (.slice A6 n2 c6) := (blk_cell hb10 1).trans rfl
                  have k60 : W8.drew.cell? ⟨w.heap.size, 0, none⟩ = some (.slice none 0 0) := (blk_cell hb6 0).trans rfl
                  have k61 : W8.drew.cell? ⟨w.heap.size, 1, none⟩ = some (.slice none 0 0) := (blk_cell hb6 1).trans rfl
                  have f60 : W8.drew.frozen? ⟨w.heap.size, 0, none⟩ = false := blk_frozen hb6 0
                  have f61 : W8.drew.frozen? ⟨w.heap.size, 1, none⟩ = false := blk_frozen hb6 1
                  obtain ⟨g6, hg6⟩ : ∃ g, w.heap.size = g := ⟨_, rfl⟩
                  rw [hg6] at hb6 k60 k61 f60 f61 ⊢
                  have k91' : W8.cell? ⟨g9, 1, none⟩ = some (.int .i64 m1) := k91
                  have k92' : W8.cell? ⟨g9, 2, none⟩ = some (.int .i64 m2) := k92
                  have ka0' : W8.cell? ⟨g10, 0, none⟩ = some (.slice A5 (n0 + n1) c5) := ka0
                  have ka1' : W8.cell? ⟨g10, 1, none⟩ = some (.slice A6 n2 c6) := ka1
                  have k60' : W8.cell? ⟨g6, 0, none⟩ = some (.slice none 0 0) := k60
                  have k61' : W8.cell? ⟨g6, 1, none⟩ = some (.slice none 0 0) := k61
                  have f60' : W8.frozen? ⟨g6, 0, none⟩ = false := f60
                  have f61' : W8.frozen? ⟨g6, 1, none⟩ = false := f61
                  have B6L := Aside0.mk (show W8.heap[g6]? = some (.cells #[.slice none 0 0, .slice none 0 0] 39 (0, 0)) from hb6)
                  have HG6 := Aside0.mk hg6
                  have v2' : IntKind.i64.wrap (m1 + m2) = s2 := by rw [IntWalk.i64_left]; exact v2
                  have hne9 : g9 ≠ g6 := by have := HG.out; omega
                  have hne10 : g10 ≠ g6 := by have := HG.out; omega
                  clear hb9 hb10 hb6 hW8 hg6
                  go_region
                  go_wp2
                  simp only [jumpsTo]
                  refine bodyPost_ret (results_ctt rfl _ _ g6 39 #[.slice A5 (n0 + n1) c5, .slice A6 n2 c6] (0, 0) _ rfl (by refine blk_drew ?_; refine blk_put (cs := #[.slice A5 (n0 + n1) c5, .slice none 0 0]) ?_ 1 _ rfl; refine blk_put (cs := #[.slice none 0 0, .slice none 0 0]) ?_ 0 _ rfl; exact B6L.out) hu rfl (by kernel_rfl)) rfl ?_
                  unfold NxP
                  rw [nextS_ok HRD.out HWA.out HWB.out]
                  refine ⟨.slice A5 (n0 + n1) c5, .slice A6 n2 c6, A4, c' - (n1 + n2), by rw [HL.out.2.2.2.1]; rfl, ?_, ?_, ?_, ?_, ?_⟩
                  · have h_ := Kd.R_drew (Kd.R_set (Kd.R_set HO58.out B6L.out HNEP.out 0 (.slice A5 (n0 + n1) c5)) (blk_set B6L.out 0 _) HNEP.out 1 (.slice A6 n2 c6))
                    rw [← HKEY.out.1] at h_
                    exact h_
                  · exact Kd.R_drew (Kd.R_set (Kd.R_set HO8.out B6L.out HNEP.out 0 (.slice A5 (n0 + n1) c5)) (blk_set B6L.out 0 _) HNEP.out 1 (.slice A6 n2 c6))
                  · intro W hC
                    have h_ := HA4.out W hC
                    rw [HL.out.2.2.2.1]
                    exact h_
                  · rw [HL.out.2.2.2.1]; exact HL.out.2.2.2.2
                  · exact below_drew (below_set (below_set HB8.out (by have := HG6.out; omega)) (by have := HG6.out; omega))
                · have HNX := Aside0.mk (nextS_B HRD.out HWA.out (place := place) (last := last) (by obtain ⟨z1, z2, z3⟩ := HKEY.out; rw [z1]; unfold wrongB; rw [decide_eq_true u3, bne_iff_ne.2 u4]; simp))
                  have f4_ : (cn != m0) = true := by have := HMS.out; have := HKEY.out.2.2; rw [bne_iff_ne]; omega
                  clear u1 u2 u3 u4
                  go_quiet (first | (go_at_call 28; exact HCM.out _) | (go_at_call 14; exact HCN.out _))
                  go_wp2
                  go_step3
                  exact ⟨⟨rfl, HNX.out, pw_below_drewN HBJ.out _, _, HGJ.out, blk_drewN BGJ.out _, rfl, rfl, rfl⟩, by rw [NxM]; decide⟩
              · have f3_ : decide (0 < p8) = false := decide_eq_false (by have := HMS.out; omega)
                have HWB := Aside0.mk (show wrongB last (last.take n0 ++ b'.take n1) place n0 = false by obtain ⟨z1, z2, z3⟩ := HKEY.out; rw [z1]; unfold wrongB; rw [z2, decide_eq_false u2, decide_eq_false u3]; simp)
                clear u1 u2 u3
                go_quiet (first | (go_at_call 28; exact HCM.out _) | (go_at_call 14; exact HCN.out _))
                go_wp2
                obtain ⟨W8, hW8⟩ : ∃ W, w7.drewN nq = W := ⟨_, rfl⟩
                rw [hW8]
                have hb9 : W8.drew.heap[g9]? = some (.cells #[.int .i64 m0, .int .i64 m1, .int .i64 m2] 52 (0, 0)) := by rw [← hW8]; exact B97.out
                have hb10 : W8.drew.heap[g10]? = some (.cells #[.slice A5 (n0 + n1) c5, .slice A6 n2 c6] 39 (0, 0)) := by rw [← hW8]; exact B107.out
                have hb6 : W8.drew.heap[w.heap.size]? = some (.cells #[.slice none 0 0, .slice none 0 0] 39 (0, 0)) := by rw [← hW8]; exact B67.out
                have HB8 := Aside0.mk (show Below w.heap.size w W8 by rw [← hW8]; exact pw_below_drewN HB7.out _)
                have HO58 := Aside0.mk (show Kd.R (Kd.int .u8) 5 W8 w.heap.size (fun _ => True) (.slice A5 (n0 + n1) c5) key by rw [← hW8]; exact Kd.R_drewN HO57.out _)
                have HO8 := Aside0.mk (show Kd.R (Kd.int .u8) 5 W8 w.heap.size (fun k => some k ≠ (Value.slice A5 (n0 + n1) c5).ownBlock) (.slice A6 n2 c6) ((b'.take (n1 + n2)).drop n1) by rw [← hW8]; exact Kd.R_drewN HO7.out _)
                clear k90 k91 k92 ka0 ka1
                have k91 : W8.drew.cell? ⟨g9, 1, none⟩ = some (.int .i64 m1) := (blk_cell hb9 1).trans rfl
                have k92 : W8.drew.cell? ⟨g9, 2, none⟩ = some (.int .i64 m2) := (blk_cell hb9 2).trans rfl
                have ka0 : W8.drew.cell? ⟨g10, 0, none⟩ = some (.slice A5 (n0 + n1) c5) := (blk_cell hb10 0).trans rfl
                have ka1 : W8.drew.cell? ⟨g10, 1, none⟩ = some (.slice A6 n2 c6) := (blk_cell hb10 1).trans rfl
                have k60 : W8.drew.cell? ⟨w.heap.size, 0, none⟩ = some (.slice none 0 0) := (blk_cell hb6 0).trans rfl
                have k61 : W8.drew.cell? ⟨w.heap.size, 1, none⟩ = some (.slice none 0 0) := (blk_cell hb6 1).trans rfl
                have f60 : W8.drew.frozen? ⟨w.heap.size, 0, none⟩ = false := blk_frozen hb6 0
                have f61 : W8.drew.frozen? ⟨w.heap.size, 1, none⟩ = false := blk_frozen hb6 1
                obtain ⟨g6, hg6⟩ : ∃ g, w.heap.size = g := ⟨_, rfl⟩
                rw [hg6] at hb6 k60 k61 f60 f61 ⊢
                have k91' : W8.cell? ⟨g9, 1, none⟩ = some (.int .i64 m1) := k91
                have k92' : W8.cell? ⟨g9, 2, none⟩ = some (.int .i64 m2) := k92
                have ka0' : W8.cell? ⟨g10, 0, none⟩ = some (.slice A5 (n0 + n1) c5) := ka0
                have ka1' : W8.cell? ⟨g10, 1, none⟩ = some (.slice A6 n2 c6) := ka1
                have k60' : W8.cell? ⟨g6, 0, none⟩ = some (.slice none 0 0) := k60
                have k61' : W8.cell? ⟨g6, 1, none⟩ = some (.slice none 0 0) := k61
                have f60' : W8.frozen? ⟨g6, 0, none⟩ = false := f60
                have f61' : W8.frozen? ⟨g6, 1, none⟩ = false := f61
                have B6L := Aside0.mk (show W8.heap[g6]? = some (.cells #[.slice none 0 0, .slice none 0 0] 39 (0, 0)) from hb6)
                have HG6 := Aside0.mk hg6
                have v2' : IntKind.i64.wrap (m1 + m2) = s2 := by rw [IntWalk.i64_left]; exact v2
                have hne9 : g9 ≠ g6 := by have := HG.out; omega
                have hne10 : g10 ≠ g6 := by have := HG.out; omega
                clear hb9 hb10 hb6 hW8 hg6
                go_region
                go_wp2
                simp only [jumpsTo]
                refine bodyPost_ret (results_ctt rfl _ _ g6 39 #[.slice A5 (n0 + n1) c5, .slice A6 n2 c6] (0, 0) _ rfl (by refine blk_drew ?_; refine blk_put (cs := #[.slice A5 (n0 + n1) c5, .slice none 0 0]) ?_ 1 _ rfl; refine blk_put (cs := #[.slice none 0 0, .slice none 0 0]) ?_ 0 _ rfl; exact B6L.out) hu rfl (by kernel_rfl)) rfl ?_
                unfold NxP
                rw [nextS_ok HRD.out HWA.out HWB.out]
                refine ⟨.slice A5 (n0 + n1) c5, .slice A6 n2 c6, A4, c' - (n1 + n2), by rw [HL.out.2.2.2.1]; rfl, ?_, ?_, ?_, ?_, ?_⟩
                · have h_ := Kd.R_drew (Kd.R_set (Kd.R_set HO58.out B6L.out HNEP.out 0 (.slice A5 (n0 + n1) c5)) (blk_set B6L.out 0 _) HNEP.out 1 (.slice A6 n2 c6))
                  rw [← HKEY.out.1] at h_
                  exact h_
                · exact Kd.R_drew (Kd.R_set (Kd.R_set HO8.out B6L.out HNEP.out 0 (.slice A5 (n0 + n1) c5)) (blk_set B6L.out 0 _) HNEP.out 1 (.slice A6 n2 c6))
                · intro W hC
                  have h_ := HA4.out W hC
                  rw [HL.out.2.2.2.1]
                  exact h_
                · rw [HL.out.2.2.2.1]; exact HL.out.2.2.2.2
                · exact below_drew (below_set (below_set HB8.out (by have := HG6.out; omega)) (by have := HG6.out; omega))
          · have f1_ : decide (0 < pl) = false := decide_eq_false (by have := HMS.out; omega)
            have f3_ : decide (0 < p8) = false := decide_eq_false (by have := HMS.out; omega)
            have HWB := Aside0.mk (show wrongB last (last.take n0 ++ b'.take n1) place n0 = false by unfold wrongB; rw [decide_eq_false u1, decide_eq_false (show ¬ 0 < place % 8 by omega)]; rfl)
            clear u1
            go_quiet (first | (go_at_call 28; exact HCM.out _) | (go_at_call 14; exact HCN.out _))
            go_wp2
            obtain ⟨W8, hW8⟩ : ∃ W, w7.drewN nq = W := ⟨_, rfl⟩
            rw [hW8]
            have hb9 : W8.drew.heap[g9]? = some (.cells #[.int .i64 m0, .int .i64 m1, .int .i64 m2] 52 (0, 0)) := by rw [← hW8]; exact B97.out
            have hb10 : W8.drew.heap[g10]? = some (.cells #[.slice A5 (n0 + n1) c5, .slice A6 n2 c6] 39 (0, 0)) := by rw [← hW8]; exact B107.out
            have hb6 : W8.drew.heap[w.heap.size]? = some (.cells #[.slice none 0 0, .slice none 0 0] 39 (0, 0)) := by rw [← hW8]; exact B67.out
            have HB8 := Aside0.mk (show Below w.heap.size w W8 by rw [← hW8]; exact pw_below_drewN HB7.out _)
            have HO58 := Aside0.mk (show Kd.R (Kd.int .u8) 5 W8 w.heap.size (fun _ => True) (.slice A5 (n0 + n1) c5) key by rw [← hW8]; exact Kd.R_drewN HO57.out _)
            have HO8 := Aside0.mk (show Kd.R (Kd.int .u8) 5 W8 w.heap.size (fun k => some k ≠ (Value.slice A5 (n0 + n1) c5).ownBlock) (.slice A6 n2 c6) ((b'.take (n1 + n2)).drop n1) by rw [← hW8]; exact Kd.R_drewN HO7.out _)
            clear k90 k91 k92 ka0 ka1
            have k91 : W8.drew.cell? ⟨g9, 1, none⟩ = some (.int .i64 m1) := (blk_cell hb9 1).trans rfl
            have k92 : W8.drew.cell? ⟨g9, 2, none⟩ = some (.int .i64 m2) := (blk_cell hb9 2).trans rfl
            have ka0 : W8.drew.cell? ⟨g10, 0, none⟩ = some (.slice A5 (n0 + n1) c5) := (blk_cell hb10 0).trans rfl
            have ka1 : W8.drew.cell? ⟨g10, 1, none⟩ = some (.slice A6 n2 c6) := (blk_cell hb10 1).trans rfl
            have k60 : W8.drew.cell? ⟨w.heap.size, 0, none⟩ = some (.slice none 0 0) := (blk_cell hb6 0).trans rfl
            have k61 : W8.drew.cell? ⟨w.heap.size, 1, none⟩ = some (.slice none 0 0) := (blk_cell hb6 1).trans rfl
            have f60 : W8.drew.frozen? ⟨w.heap.size, 0, none⟩ = false := blk_frozen hb6 0
            have f61 : W8.drew.frozen? ⟨w.heap.size, 1, none⟩ = false := blk_frozen hb6 1
            obtain ⟨g6, hg6⟩ : ∃ g, w.heap.size = g := ⟨_, rfl⟩
            rw [hg6] at hb6 k60 k61 f60 f61 ⊢
            have k91' : W8.cell? ⟨g9, 1, none⟩ = some (.int .i64 m1) := k91
            have k92' : W8.cell? ⟨g9, 2, none⟩ = some (.int .i64 m2) := k92
            have ka0' : W8.cell? ⟨g10, 0, none⟩ = some (.slice A5 (n0 + n1) c5) := ka0
            have ka1' : W8.cell? ⟨g10, 1, none⟩ = some (.slice A6 n2 c6) := ka1
            have k60' : W8.cell? ⟨g6, 0, none⟩ = some (.slice none 0 0) := k60
            have k61' : W8.cell? ⟨g6, 1, none⟩ = some (.slice none 0 0) := k61
            have f60' : W8.frozen? ⟨g6, 0, none⟩ = false := f60
            have f61' : W8.frozen? ⟨g6, 1, none⟩ = false := f61
            have B6L := Aside0.mk (show W8.heap[g6]? = some (.cells #[.slice none 0 0, .slice none 0 0] 39 (0, 0)) from hb6)
            have HG6 := Aside0.mk hg6
            have v2' : IntKind.i64.wrap (m1 + m2) = s2 := by rw [IntWalk.i64_left]; exact v2
            have hne9 : g9 ≠ g6 := by have := HG.out; omega
            have hne10 : g10 ≠ g6 := by have := HG.out; omega
            clear hb9 hb10 hb6 hW8 hg6
            go_region
            go_wp2
            simp only [jumpsTo]
            refine bodyPost_ret (results_ctt rfl _ _ g6 39 #[.slice A5 (n0 + n1) c5, .slice A6 n2 c6] (0, 0) _ rfl (by refine blk_drew ?_; refine blk_put (cs := #[.slice A5 (n0 + n1) c5, .slice none 0 0]) ?_ 1 _ rfl; refine blk_put (cs := #[.slice none 0 0, .slice none 0 0]) ?_ 0 _ rfl; exact B6L.out) hu rfl (by kernel_rfl)) rfl ?_
            unfold NxP
            rw [nextS_ok HRD.out HWA.out HWB.out]
            refine ⟨.slice A5 (n0 + n1) c5, .slice A6 n2 c6, A4, c' - (n1 + n2), by rw [HL.out.2.2.2.1]; rfl, ?_, ?_, ?_, ?_, ?_⟩
            · have h_ := Kd.R_drew (Kd.R_set (Kd.R_set HO58.out B6L.out HNEP.out 0 (.slice A5 (n0 + n1) c5)) (blk_set B6L.out 0 _) HNEP.out 1 (.slice A6 n2 c6))
              rw [← HKEY.out.1] at h_
              exact h_
            · exact Kd.R_drew (Kd.R_set (Kd.R_set HO8.out B6L.out HNEP.out 0 (.slice A5 (n0 + n1) c5)) (blk_set B6L.out 0 _) HNEP.out 1 (.slice A6 n2 c6))
            · intro W hC
              have h_ := HA4.out W hC
              rw [HL.out.2.2.2.1]
              exact h_
            · rw [HL.out.2.2.2.1]; exact HL.out.2.2.2.2
            · exact below_drew (below_set (below_set HB8.out (by have := HG6.out; omega)) (by have := HG6.out; omega))
  · rintro lb a' w' ⟨rfl, hn, hb, g6, hg6, hbg, hsz, hp6, hdf⟩
    refine ⟨_, rfl, ?_⟩
    have he : a' = { tmps := #[a'.tmps.getD 0 undef, a'.tmps.getD 1 undef, a'.tmps.getD 2 undef, a'.tmps.getD 3 undef, a'.tmps.getD 4 undef, a'.tmps.getD 5 undef, .pointer (some ⟨g6, 0, none⟩), a'.tmps.getD 7 undef, a'.tmps.getD 8 undef, a'.tmps.getD 9 undef, a'.tmps.getD 10 undef, a'.tmps.getD 11 undef, a'.tmps.getD 12 undef, a'.tmps.getD 13 undef, a'.tmps.getD 14 undef, a'.tmps.getD 15 undef, a'.tmps.getD 16 undef, a'.tmps.getD 17 undef, a'.tmps.getD 18 undef, a'.tmps.getD 19 undef, a'.tmps.getD 20 undef, a'.tmps.getD 21 undef, a'.tmps.getD 22 undef, a'.tmps.getD 23 undef, a'.tmps.getD 24 undef, a'.tmps.getD 25 undef, a'.tmps.getD 26 undef, a'.tmps.getD 27 undef, a'.tmps.getD 28 undef, a'.tmps.getD 29 undef, a'.tmps.getD 30 undef, a'.tmps.getD 31 undef, a'.tmps.getD 32 undef, a'.tmps.getD 33 undef, a'.tmps.getD 34 undef, a'.tmps.getD 35 undef, a'.tmps.getD 36 undef, a'.tmps.getD 37 undef, a'.tmps.getD 38 undef, a'.tmps.getD 39 undef, a'.tmps.getD 40 undef, a'.tmps.getD 41 undef, a'.tmps.getD 42 undef, a'.tmps.getD 43 undef, a'.tmps.getD 44 undef, a'.tmps.getD 45 undef, a'.tmps.getD 46 undef, a'.tmps.getD 47 undef, a'.tmps.getD 48 undef, a'.tmps.getD 49 undef, a'.tmps.getD 50 undef, a'.tmps.getD 51 undef, a'.tmps.getD 52 undef, a'.tmps.getD 53 undef, a'.tmps.getD 54 undef, a'.tmps.getD 55 undef, a'.tmps.getD 56 undef, a'.tmps.getD 57 undef, a'.tmps.getD 58 undef, a'.tmps.getD 59 undef, a'.tmps.getD 60 undef, a'.tmps.getD 61 undef, a'.tmps.getD 62 undef, a'.tmps.getD 63 undef, a'.tmps.getD 64 undef, a'.tmps.getD 65 undef, a'.tmps.getD 66 undef, a'.tmps.getD 67 undef, a'.tmps.getD 68 undef, a'.tmps.getD 69 undef, a'.tmps.getD 70 undef, a'.tmps.getD 71 undef, a'.tmps.getD 72 undef, a'.tmps.getD 73 undef, a'.tmps.getD 74 undef, a'.tmps.getD 75 undef, a'.tmps.getD 76 undef, a'.tmps.getD 77 undef, a'.tmps.getD 78 undef, a'.tmps.getD 79 undef, a'.tmps.getD 80 undef, a'.tmps.getD 81 undef, a'.tmps.getD 82 undef, a'.tmps.getD 83 undef, a'.tmps.getD 84 undef, a'.tmps.getD 85 undef, a'.tmps.getD 86 undef, a'.tmps.getD 87 undef, a'.tmps.getD 88 undef, a'.tmps.getD 89 undef, a'.tmps.getD 90 undef, a'.tmps.getD 91 undef, a'.tmps.getD 92 undef, a'.tmps.getD 93 undef, a'.tmps.getD 94 undef, a'.tmps.getD 95 undef, a'.tmps.getD 96 undef, a'.tmps.getD 97 undef, a'.tmps.getD 98 undef, a'.tmps.getD 99 undef, a'.tmps.getD 100 undef, a'.tmps.getD 101 undef, a'.tmps.getD 102 undef, a'.tmps.getD 103 undef, a'.tmps.getD 104 undef, a'.tmps.getD 105 undef, a'.tmps.getD 106 undef, a'.tmps.getD 107 undef, a'.tmps.getD 108 undef, a'.tmps.getD 109 undef, a'.tmps.getD 110 undef, a'.tmps.getD 111 undef, a'.tmps.getD 112 undef, a'.tmps.getD 113 undef, a'.tmps.getD 114 undef, a'.tmps.getD 115 undef, a'.tmps.getD 116 undef, a'.tmps.getD 117 undef, a'.tmps.getD 118 undef, a'.tmps.getD 119 undef, a'.tmps.getD 120 undef, a'.tmps.getD 121 undef, a'.tmps.getD 122 undef, a'.tmps.getD 123 undef, a'.tmps.getD 124 undef], defers := [] } := by
      rcases a' with ⟨tm, df⟩
      cases hdf
      have h1 := lit125 tm hsz
      rw [show tm.getD 6 undef = .pointer (some ⟨g6, 0, none⟩) from hp6] at h1
      exact congrArg (fun t => ({ tmps := t, defers := [] } : Act)) h1
    rw [he]
    clear he hsz hp6 hdf
    have HN := Aside0.mk hn
    have HB := Aside0.mk hb
    have HG := Aside0.mk hg6
    have k0 : w'.cell? ⟨g6, 0, none⟩ = some (.slice none 0 0) := (blk_cell hbg 0).trans rfl
    have k1 : w'.cell? ⟨g6, 1, none⟩ = some (.slice none 0 0) := (blk_cell hbg 1).trans rfl
    have f0 := blk_frozen hbg 0
    have f1 := blk_frozen hbg 1
    have BG := Aside0.mk hbg
    clear hn hb hg6 hbg
    go_wp2
    simp only [jumpsTo]
    refine bodyPost_ret (results_ctt rfl _ _ g6 39 #[.slice none 0 0, .slice none 0 0] (0, 0) _ rfl (by refine blk_put (cs := #[.slice none 0 0, .slice none 0 0]) ?_ 1 _ rfl; refine blk_put (cs := #[.slice none 0 0, .slice none 0 0]) ?_ 0 _ rfl; exact BG.out) Try.underlying39 rfl (by kernel_rfl)) rfl ?_
    unfold NxP
    rw [HN.out]
    exact ⟨rfl, below_set (below_set HB.out HG.out) HG.out⟩

end Go.Proofs.Yticddiiigfkamaa.P
