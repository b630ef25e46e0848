/- rickyardlaw01.WidePrints: digits are told and read as the reference does. No conditions. -/
import Derived.Test.YtjmobjjajnnodaaWideParse
import Derived.Test.YtjmobjjajnnodaaERefPrint
import Derived.Test.YtjmobjjajnnodaaPrickyardlaw01WidePrints
namespace Go.Proofs.Ytjmobjjajnnodaa.Pure
open Go.RowKit Go.Proofs.Ytjmobjjajnnodaa.P Go.Proofs.YtjmobjjajnnodaaW.PrintWords Go.Proofs.YtjmobjjajnnodaaW.PrintLast
set_option linter.unusedVariables false
set_option linter.unusedSectionVars false

theorem refOf_f (v : Int) (h : -9223372036854775808 ≤ v) (h' : v < 9223372036854775808) : rickyardref01_Of.f v = some (mkHi v, mkLo v) := by
  rw [← of_f v h h']
  unfold rickyardref01_Of.f wide_Of.f
  by_cases h0 : v < 0
  · rw [if_pos h0, show v / 9223372036854775808 = -1 by omega]
  · rw [if_neg h0, show v / 9223372036854775808 = 0 by omega]
theorem w128_mk (n : Int) : W128 (mkHi n) (mkLo n) := ⟨mkLo_nn n, mkLo_lt n, mkHi_ge n, mkHi_lt n⟩
theorem refMinus_mk (n : Int) : rickyardref01_Minus.f (mkHi n) (mkLo n) = some (mkHi (-n), mkLo (-n)) := by
  rw [refMinus_n _ _ (w128_mk n)]
  have := neg_mk_mk n
  unfold wide_Minus.f at this
  exact this
theorem map_back {l : List Int} (h : ByB l) : (l.map fun n => UInt8.ofNat n.toNat).map (fun b => (b.toNat : Int)) = l := by
  rw [List.map_map]
  refine (List.map_congr_left (g := id) fun x hx => ?_).trans (List.map_id l)
  have := h x hx
  show ((UInt8.ofNat x.toNat).toNat : Int) = x
  rw [UInt8.toNat_ofNat']
  omega
theorem str_inj {a b : List Int} (ha : ByB a) (hb : ByB b) (h : (strOfNums a).toList = (strOfNums b).toList) : a = b := by
  rw [Go.Lib.strOfNums_toList, Go.Lib.strOfNums_toList] at h
  unfold Go.Lib.bytesOf at h
  rw [← map_back ha, ← map_back hb, h]
theorem prOut_by (a0 a1 : Int) : ByB (prOut a0 a1) := by
  have hd : ∀ n, ByB (dec n) := fun n x hx => by
    have := (List.all_eq_true.1 (dec_digs n)) x hx
    simp at this; omega
  unfold prOut
  split
  · intro x hx
    rcases List.mem_cons.1 hx with rfl | hx
    · decide
    · exact hd _ x hx
  · exact hd _
/-- What the reference tells at its end. -/
def rfin (s : List Int) (neg : Bool) (V : Int) : Int × Int × Int :=
  if prOut (mkHi (if neg = true then -V else V)) (mkLo (if neg = true then -V else V)) = s then (mkHi (if neg = true then -V else V), mkLo (if neg = true then -V else V), 0) else (0, 0, 11)
section
variable {s l : List Int} (hs : ByB s) (hb : ByB l)
include hs hb
theorem ref_l2 (neg : Bool) {i : Nat} {c : Int} (hi : i < 1000) (hc : l[i]? = some c) (d : Nat) : ∀ (k : Nat) (V T : Int), d ≤ 10 → rickyardref01_Parse.l2 (k + d + 1) (strOfNums s) (strOfNums l) neg i (10 - (d : Int)) (mkHi V) (mkLo V) (mkHi T) (mkLo T) = rickyardref01_Parse.l1 k (strOfNums s) (strOfNums l) neg ((i + 1 : Nat) : Int) (mkHi (T + d * V + (c - 48))) (mkLo (T + d * V + (c - 48))) := by
  induction d with
  | zero =>
    intro k V T _
    have hlt := (List.getElem?_eq_some_iff.1 hc).1
    have hm := hb c (List.mem_of_getElem? hc)
    rw [rickyardref01_Parse.l2, if_neg (by omega), if_pos (by omega), if_pos (by rw [strOfNums_size]; omega), bt_str hb hc, show wrap64 (wrap64 c - 48) = c - 48 by unfold wrap64; omega, refOf_f _ (by omega) (by omega)]
    simp only [Option.bind_some]
    unfold rickyardref01_Add.f
    rw [add_mk_mk]
    simp only [Option.bind_some]
    rw [show wrap64 ((i : Int) + 1) = ((i + 1 : Nat) : Int) by unfold wrap64; omega, show (T + ((0 : Nat) : Int) * V) = T by simp]
  | succ d ih =>
    intro k V T hd
    rw [show k + (d + 1) + 1 = (k + d + 1) + 1 from rfl, rickyardref01_Parse.l2, if_pos (by omega)]
    unfold rickyardref01_Add.f
    rw [add_mk_mk]
    simp only [Option.bind_some]
    rw [show wrap64 (10 - ((d + 1 : Nat) : Int) + 1) = 10 - (d : Int) by unfold wrap64; omega, ih k V (T + V) (by omega)]
    have e : T + V + (d : Int) * V = T + ((d + 1 : Nat) : Int) * V := by rw [show ((d + 1 : Nat) : Int) = (d : Int) + 1 from rfl, Int.add_mul]; omega
    rw [e]
theorem ref_fin (neg : Bool) (k : Nat) (i : Int) (V : Int) : rickyardref01_Parse.j5 (k + 1) (strOfNums s) (strOfNums l) neg i false (mkHi V) (mkLo V) = some (rfin s neg V) := by
  have hfin : ∀ z : Int, ((rickyardref01_Print.f (mkHi z) (mkLo z)).bind fun t157 => (if t157.toList = (strOfNums s).toList then (some (mkHi z, mkLo z, (0 : Int))) else (some (0, 0, 11)))) = some (if prOut (mkHi z) (mkLo z) = s then (mkHi z, mkLo z, 0) else (0, 0, 11)) := by
    intro z
    unfold rickyardref01_Print.f
    rw [if_pos (w128_mk z)]
    simp only [Option.bind_some]
    by_cases h : prOut (mkHi z) (mkLo z) = s
    · rw [if_pos h, h, if_pos rfl]
    · rw [if_neg h, if_neg (fun e => h (str_inj (prOut_by _ _) hs e))]
  rw [rickyardref01_Parse.j5, if_neg (by decide)]
  cases neg with
  | true =>
    rw [if_pos rfl, refMinus_mk]
    simp only [Option.bind_some]
    rw [hfin]; rfl
  | false =>
    rw [if_neg (by decide), hfin]; rfl
theorem ref_l1 (neg : Bool) (hl : l.length ≤ 900) (hd : digs l = true) (d : Nat) : ∀ (k i V : Nat), i + d = min l.length 40 → rickyardref01_Parse.l1 (k + 14 * d + 2) (strOfNums s) (strOfNums l) neg i (mkHi V) (mkLo V) = some (rfin s neg (vD V ((l.take 40).drop i) : Nat)) := by
  induction d with
  | zero =>
    intro k i V hi
    have hdr : (l.take 40).drop i = [] := List.drop_of_length_le (by rw [List.length_take]; omega)
    rw [hdr, vD, show k + 14 * 0 + 2 = (k + 1) + 1 from rfl, rickyardref01_Parse.l1, strOfNums_size]
    by_cases h : (i : Int) < l.length
    · rw [if_pos h, show decide ((i : Int) < 40) = false from decide_eq_false (by omega)]; exact ref_fin hs hb neg k i V
    · rw [if_neg h]; exact ref_fin hs hb neg k i V
  | succ d ih =>
    intro k i V hi
    have hlt : i < l.length := by omega
    obtain ⟨c, hc⟩ : ∃ c, l[i]? = some c := ⟨_, List.getElem?_eq_getElem hlt⟩
    have hcm := List.mem_of_getElem? hc
    have hcd := (List.all_eq_true.1 hd) c hcm
    simp only [Bool.and_eq_true, decide_eq_true_eq] at hcd
    have hdrop : (l.take 40).drop i = c :: (l.take 40).drop (i + 1) := by
      rw [List.drop_eq_getElem_cons (by rw [List.length_take]; omega), List.getElem_take]
      have := (List.getElem?_eq_some_iff.1 hc).2
      rw [this]
    rw [show k + 14 * (d + 1) + 2 = (k + 14 * d + 2 + 13) + 1 by omega, rickyardref01_Parse.l1, strOfNums_size, if_pos (by omega), show decide ((i : Int) < 40) = true from decide_eq_true (by omega), show k + 14 * d + 2 + 13 = (k + 14 * d + 2 + 12) + 1 from rfl, rickyardref01_Parse.j5, if_pos rfl]
    have h2 := ref_l2 hs hb neg (by omega) hc 10 (k + 14 * d + 3) (V : Int) 0 (by decide)
    rw [show (10 : Int) - ((10 : Nat) : Int) = 0 from rfl, show mkHi 0 = 0 from by decide +kernel, show mkLo 0 = 0 from by decide +kernel] at h2
    rw [show k + 14 * d + 2 + 12 = k + 14 * d + 3 + 10 + 1 by omega, h2, hdrop, vD]
    have e : (0 : Int) + ((10 : Nat) : Int) * (V : Int) + (c - 48) = ((10 * V + (c - 48).toNat : Nat) : Int) := by omega
    rw [e, show k + 14 * d + 3 = (k + 1) + 14 * d + 2 by omega]
    exact ih (k + 1) (i + 1) _ (by omega)
theorem ref_l0 (neg : Bool) (hl : l.length ≤ 900) (d : Nat) : ∀ (k i : Nat), i + d = l.length → digs (l.take i) = true →
    rickyardref01_Parse.l0 (k + 600 + d + 1) (strOfNums s) (strOfNums l) neg i = some (if digs l = true then rfin s neg (vD 0 (l.take 40) : Nat) else (0, 0, 3)) := by
  induction d with
  | zero =>
    intro k i hi hd
    obtain rfl : i = l.length := by omega
    rw [List.take_length] at hd
    rw [rickyardref01_Parse.l0, if_neg (by rw [strOfNums_size]; exact Int.lt_irrefl _), if_pos hd]
    have h := ref_l1 hs hb neg hl hd (min l.length 40) (k + 598 - 14 * min l.length 40) 0 0 (by omega)
    rw [show k + 598 - 14 * min l.length 40 + 14 * min l.length 40 + 2 = k + 600 by omega, List.drop_zero, show mkHi ((0 : Nat) : Int) = 0 from by decide +kernel, show mkLo ((0 : Nat) : Int) = 0 from by decide +kernel] at h
    exact h
  | succ d ih =>
    intro k i hi hd
    have hlt : i < l.length := by omega
    obtain ⟨c, hc⟩ : ∃ c, l[i]? = some c := ⟨_, List.getElem?_eq_getElem hlt⟩
    have hcm := List.mem_of_getElem? hc
    rw [show k + 600 + (d + 1) + 1 = (k + 600 + d + 1) + 1 from rfl, rickyardref01_Parse.l0, if_pos (by rw [strOfNums_size]; omega), if_pos (by omega), bt_str hb hc]
    have hno : ∀ (h : c < 48 ∨ 57 < c), ¬ digs l = true := by
      intro h h2
      have := (List.all_eq_true.1 h2) c hcm
      simp only [Bool.and_eq_true, decide_eq_true_eq] at this
      omega
    by_cases h1 : c < 48
    · rw [if_pos h1, if_neg (hno (.inl h1))]
    · rw [if_neg h1]
      by_cases h2 : c > 57
      · rw [if_pos h2, if_neg (hno (.inr h2))]
      · rw [if_neg h2, show wrap64 ((i : Int) + 1) = ((i + 1 : Nat) : Int) by unfold wrap64; omega]
        refine ih k (i + 1) (by omega) ?_
        rw [List.take_add_one, hc]
        unfold digs at hd ⊢
        rw [List.all_append, hd]
        simp
        omega
theorem ref_j1 (neg : Bool) (hl : l.length ≤ 300) (k : Nat) : rickyardref01_Parse.j1 (k + 903) (strOfNums s) (strOfNums l) neg = some (if badD neg l = true then (0, 0, 3) else if digs l = true then rfin s neg (vD 0 (l.take 40) : Nat) else (0, 0, 3)) := by
  have h0 := ref_l0 hs hb neg (by omega) l.length (k + 300 - l.length) 0 (by omega) (by rfl)
  rw [show k + 300 - l.length + 600 + l.length + 1 = k + 901 by omega] at h0
  rw [show k + 903 = (k + 902) + 1 from rfl, rickyardref01_Parse.j1]
  have hj : ∀ b : Bool, rickyardref01_Parse.j2 (k + 902) (strOfNums s) (strOfNums l) neg b = some (if b = true then (0, 0, 3) else if digs l = true then rfin s neg (vD 0 (l.take 40) : Nat) else (0, 0, 3)) := by
    intro b
    rw [show k + 902 = (k + 901) + 1 from rfl, rickyardref01_Parse.j2]
    cases b with
    | true => rw [if_pos rfl, if_pos rfl]
    | false => rw [if_neg (by decide), if_neg (by decide)]; exact h0
  rw [strOfNums_size]
  cases l with
  | nil => rw [if_pos (by decide), hj]; rfl
  | cons c t =>
    rw [if_neg (by simp only [List.length_cons]; omega), if_pos (by simp only [List.length_cons]; omega), show bt (strOfNums (c :: t)) 0 = c from bt_str hb (i := 0) rfl, hj, hj, hj]
    by_cases h : c = 48
    · subst h
      rw [if_pos rfl]
      cases neg with
      | true => rw [if_pos rfl, if_pos rfl]; simp [badD]
      | false =>
        rw [if_neg (by decide)]
        cases t with
        | nil => rfl
        | cons x t => rw [show decide ((((48 : Int) :: x :: t).length : Int) > 1) = true from decide_eq_true (by simp only [List.length_cons]; omega), if_pos rfl]; rfl
    · rw [if_neg h]
      have e : badD neg (c :: t) = false := by simp [badD, h]
      rw [e, if_neg (show ¬ (false = true) by decide)]
end
/-- Both tell the same of good digits. -/
theorem same_fin (s d : List Int) (neg : Bool) (hz : badD neg d = false) (hd : digs d = true) (hs : s = if neg = true then 45 :: d else d) (hp : parse3 s = body3 neg d) : rfin s neg (vD 0 (d.take 40) : Nat) = body3 neg d := by
  unfold rfin
  obtain ⟨z, hzz⟩ : ∃ z : Int, (if neg = true then -((vD 0 (d.take 40) : Nat) : Int) else (vD 0 (d.take 40) : Nat)) = z := ⟨_, rfl⟩
  rw [hzz]
  by_cases h : prOut (mkHi z) (mkLo z) = s
  · rw [if_pos h, ← hp, ← h, parse_print _ _ (mkLo_nn _) (mkLo_lt _) (mkHi_ge _) (mkHi_lt _)]
  · rw [if_neg h]
    have h3 : body3 neg d = (0, 0, 11) ∨ ∃ p0 p1, body3 neg d = (p0, p1, 0) := by
      unfold body3
      rw [if_pos hd]
      by_cases c1 : 39 < d.length
      · rw [if_pos c1]; exact .inl rfl
      · rw [if_neg c1]
        by_cases c2 : 340282366920938463463374607431768211456 ≤ vD 0 d
        · rw [if_pos c2]; exact .inl rfl
        · rw [if_neg c2]
          unfold fin3
          generalize (if neg = true then -((vD 0 d : Nat) : Int) else ((vD 0 d : Nat) : Int)) = y
          by_cases c3 : (decide (mkHi y < 0) != neg) = true
          · rw [if_pos c3]; exact .inl rfl
          · rw [if_neg c3]; exact .inr ⟨_, _, rfl⟩
    rcases h3 with h3 | ⟨p0, p1, h3⟩
    · exact h3.symm
    · exfalso
      obtain ⟨⟨r1, r2, r3, r4⟩, hpr, hvl, hlen, _⟩ := body_back h3 hz
      rw [List.take_of_length_le (by omega)] at hzz
      have hzv : z = vl p0 p1 := by rw [← hzz, hvl]
      have := mk_vl p0 p1 r1 r2 r3 r4
      rw [hzv, this.1, this.2, hpr] at h
      exact h hs.symm
theorem refParse_f {l : List Int} (hb : ByB l) (hl : l.length ≤ 300) (k : Nat) : rickyardref01_Parse.f (k + 904) (strOfNums l) = some (parse3 l) := by
  unfold rickyardref01_Parse.f
  rw [strOfNums_size]
  have hj : ∀ (neg : Bool) (d : List Int), ByB d → d.length ≤ 300 → l = (if neg = true then 45 :: d else d) → parse3 l = (if badD neg d = true then (0, 0, 3) else body3 neg d) → rickyardref01_Parse.j1 (k + 903) (strOfNums l) (strOfNums d) neg = some (parse3 l) := by
    intro neg d hd hld hld2 hp
    rw [ref_j1 hb hd neg hld k, hp]
    by_cases h : badD neg d = true
    · rw [if_pos h, if_pos h]
    · rw [if_neg h, if_neg h]
      rw [if_neg h] at hp
      by_cases h2 : digs d = true
      · rw [if_pos h2, same_fin l d neg (by simpa using h) h2 hld2 hp]
      · rw [if_neg h2, body3, if_neg h2]
  cases l with
  | nil =>
    rw [if_neg (by decide), show k + 904 = (k + 903) + 1 from rfl, rickyardref01_Parse.j0, if_neg (by decide)]
    exact hj false [] (fun x hx => by cases hx) (by simp) rfl rfl
  | cons c t =>
    rw [if_pos (by simp), if_pos (by simp), show bt (strOfNums (c :: t)) 0 = c from bt_str hb (i := 0) rfl, show k + 904 = (k + 903) + 1 from rfl, rickyardref01_Parse.j0, strOfNums_size]
    by_cases h : c = 45
    · subst h
      have e : (strOfNums (45 :: t)).extract 1 (45 :: t).length = strOfNums t := by
        have := str_drop (45 :: t)
        rwa [strOfNums_size] at this
      rw [if_pos (by decide), if_pos (by simp; omega), e]
      exact hj true t (fun x hx => hb x (List.mem_cons_of_mem _ hx)) (by simp at hl; omega) rfl rfl
    · rw [show (c == 45) = false from beq_eq_false_iff_ne.2 h, if_neg (by decide)]
      refine hj false (c :: t) hb hl rfl ?_
      unfold parse3
      split
      · next h2 => simp at h2; exact absurd h2.1 h
      · rfl
theorem WidePrints_walk (a0 a1 : Int) (s : ByteArray) (w : World) (p0 : (Lit.int .i64 a0).wf = true) (p1 : (Lit.int .u64 a1).wf = true) (_ : s.size ≤ maxLen) :
    Calls Try.prog 4 #[.agg #[.int .i64 a0, .int .u64 a1], .string s] w fun e w' => e = .returned (.bool true) ∧ Below w.heap.size w w' := by
  have pa := of_wf_i64 p0
  have pb := of_wf_u64 p1
  refine rickyardlaw01_WidePrints.calls 904 a0 a1 s true w ?_ rfl
  unfold rickyardlaw01_WidePrints.f
  by_cases h : (s.size : Int) > 200
  · rw [if_pos h, alive01_f _ (by decide)]; rfl
  · rw [if_neg h, ← str_dsOf s]
    have hlen : (dsOf s).length ≤ 300 := by rw [dsOf_len]; omega
    have e1 := parse_f (dsOf_by s) hlen 558
    have e2 := refParse_f (dsOf_by s) hlen 0
    rw [show 558 + 346 = 904 from rfl] at e1
    rw [show 0 + 904 = 904 from rfl] at e2
    rw [e1, e2]
    simp only [Option.bind_some]
    rw [alive01_f _ (by decide)]
    simp only [Option.bind_some, if_true]
    unfold wide_Print.f rickyardref01_Print.f
    rw [if_pos ⟨pb.1, pb.2⟩, if_pos (show W128 a0 a1 from ⟨pb.1, pb.2, pa.1, pa.2⟩)]
    simp only [Option.bind_some, if_true, beq_self_eq_true, Bool.and_self]

end Go.Proofs.Ytjmobjjajnnodaa.Pure
