/- What the code's Parse tells, in plain Lean: texts and numbers of 128 digits, there and back. No conditions. -/
import Derived.Test.YtjmobjjajnnodaaWidePure1
import Derived.Lib.Bytes
namespace Go.Proofs.Ytjmobjjajnnodaa.P
open Go.RowKit Go.Proofs.YtjmobjjajnnodaaW.PrintWords Go.Proofs.YtjmobjjajnnodaaW.PrintLast Go.Proofs.YtjmobjjajnnodaaW.PrintMore
set_option linter.unusedVariables false
set_option linter.unusedSimpArgs false

/-- Of bytes. -/
def ByB (l : List Int) : Prop := ∀ x ∈ l, 0 ≤ x ∧ x < 256
def dsOf (s : ByteArray) : List Int := s.data.toList.map fun b => (b.toNat : Int)
theorem dsOf_by (s : ByteArray) : ByB (dsOf s) := by
  intro x hx
  obtain ⟨b, _, rfl⟩ := List.mem_map.1 hx
  have := b.toNat_lt
  omega
theorem str_dsOf (s : ByteArray) : strOfNums (dsOf s) = s := by
  apply ByteArray.ext
  show ((dsOf s).map fun n => UInt8.ofNat n.toNat).toArray = s.data
  unfold dsOf
  rw [List.map_map]
  have e : ((fun n : Int => UInt8.ofNat n.toNat) ∘ fun b : UInt8 => (b.toNat : Int)) = id := by
    funext b
    show UInt8.ofNat (b.toNat : Int).toNat = b
    rw [Int.toNat_natCast, UInt8.ofNat_toNat]
  rw [e, List.map_id]
theorem dsOf_len (s : ByteArray) : (dsOf s).length = s.size := by
  unfold dsOf
  rw [List.length_map, Array.length_toList]; rfl
theorem bt_str {l : List Int} (h : ByB l) {i : Nat} {c : Int} (hi : l[i]? = some c) : bt (strOfNums l) (i : Int) = c := by
  obtain ⟨hlt, hc⟩ := List.getElem?_eq_some_iff.1 hi
  have hm := h c (by rw [← hc]; exact List.getElem_mem hlt)
  unfold bt
  have hs : ((i : Int)).toNat < (strOfNums l).size := by rw [strOfNums_size, Int.toNat_natCast]; exact hlt
  rw [dif_pos hs]
  have e : (strOfNums l)[((i : Int)).toNat]'hs = UInt8.ofNat c.toNat := by
    show (l.map fun n => UInt8.ofNat n.toNat).toArray[((i : Int)).toNat]'_ = _
    simp only [Int.toNat_natCast, List.getElem_toArray, List.getElem_map, hc]
  rw [e, UInt8.toNat_ofNat']
  omega
theorem str_drop (l : List Int) : (strOfNums l).extract 1 (strOfNums l).size = strOfNums (l.drop 1) := by
  apply ByteArray.ext
  rw [ByteArray.data_extract, strOfNums_size]
  apply Array.ext'
  simp only [strOfNums, Array.toList_extract, List.extract_eq_take_drop, List.map_drop]
  rw [List.take_of_length_le (by simp)]
theorem str_nil (l : List Int) : (strOfNums l).toList = [] ↔ l = [] := by
  rw [Go.Lib.strOfNums_toList]
  cases l <;> simp [Go.Lib.bytesOf]

/-- The number of digits, behind v. -/
def vD (v : Nat) : List Int → Nat
  | [] => v
  | c :: t => vD (10 * v + (c - 48).toNat) t
theorem vD_ge (l : List Int) : ∀ v, v ≤ vD v l := by
  induction l with
  | nil => exact fun v => Nat.le_refl v
  | cons c l ih => intro v; rw [vD]; have := ih (10 * v + (c - 48).toNat); omega
theorem vD_app (l : List Int) (c : Int) : ∀ v, vD v (l ++ [c]) = 10 * vD v l + (c - 48).toNat := by
  induction l with
  | nil => intro v; rfl
  | cons x l ih => intro v; rw [List.cons_append, vD, ih, vD]
def digs (l : List Int) : Bool := l.all fun c => decide (48 ≤ c) && decide (c ≤ 57)
theorem digs_cons (c : Int) (l : List Int) : digs (c :: l) = (decide (48 ≤ c) && decide (c ≤ 57) && digs l) := by simp [digs, Bool.and_assoc]
/-- What is told of a number of digits. -/
def fin3 (neg : Bool) (V : Nat) : Int × Int × Int :=
  if ((decide (mkHi (if neg = true then -(V : Int) else V) < 0)) != neg) = true then (0, 0, 11) else (mkHi (if neg = true then -(V : Int) else V), mkLo (if neg = true then -(V : Int) else V), 0)
def body3 (neg : Bool) (d : List Int) : Int × Int × Int :=
  if digs d = true then (if 39 < d.length then (0, 0, 11) else if 340282366920938463463374607431768211456 ≤ vD 0 d then (0, 0, 11) else fin3 neg (vD 0 d)) else (0, 0, 3)
/-- Does a row of digits begin so as none may? -/
def badD (neg : Bool) (d : List Int) : Bool := match d with | [] => true | c :: t => c == 48 && (!t.isEmpty || neg)
def parse3 (l : List Int) : Int × Int × Int :=
  match l with
  | 45 :: d => if badD true d = true then (0, 0, 3) else body3 true d
  | d => if badD false d = true then (0, 0, 3) else body3 false d

theorem step_ar (H L D c lo u lo2 ov hi up hi2 : Nat) (h1 : 18446744073709551616 * c + lo = L * 10) (h2 : 18446744073709551616 * u + lo2 = lo + D) (h3 : 18446744073709551616 * ov + hi = H * 10) (h4 : 18446744073709551616 * up + hi2 = hi + c + u) :
    10 * (H * 18446744073709551616 + L) + D = ov * 340282366920938463463374607431768211456 + up * 340282366920938463463374607431768211456 + hi2 * 18446744073709551616 + lo2 := by omega
theorem add64_nat (x y c : Nat) (h : c ≤ 1) : bits_Add64.f x y c = some ((((x + y + c) % 18446744073709551616 : Nat) : Int), (((x + y + c) / 18446744073709551616 : Nat) : Int)) := by
  unfold bits_Add64.f
  rw [if_pos ⟨Int.natCast_nonneg _, Int.natCast_nonneg _, Int.natCast_nonneg _, by omega⟩]
  simp only [Int.natCast_emod, Int.natCast_ediv, Int.natCast_add]
  rfl
theorem mk_nat (H L : Nat) (hH : H < 18446744073709551616) (hL : L < 18446744073709551616) : wrap64 (H : Int) = mkHi ((H * 18446744073709551616 + L : Nat) : Int) ∧ (L : Int) = mkLo ((H * 18446744073709551616 + L : Nat) : Int) := by
  unfold mkHi mkLo
  have e1 : ((H * 18446744073709551616 + L : Nat) : Int) / 18446744073709551616 = (H : Int) := by omega
  have e2 : ((H * 18446744073709551616 + L : Nat) : Int) % 18446744073709551616 = (L : Int) := by omega
  rw [e1, e2]
  exact ⟨rfl, rfl⟩
theorem dig_nat {c : Int} (h : 48 ≤ c ∧ c ≤ 57) : ∃ D : Nat, c - 48 = (D : Int) ∧ D < 10 ∧ (c - 48).toNat = D ∧ (D : Int) % 256 = D := ⟨(c - 48).toNat, by omega, by omega, rfl, by omega⟩
theorem u_le (L D : Nat) (hD : D < 10) : (L * 10 % 18446744073709551616 + D) / 18446744073709551616 ≤ 1 := by
  have := Nat.mod_lt (L * 10) (show 0 < 18446744073709551616 by decide)
  generalize L * 10 % 18446744073709551616 = x at this
  omega
theorem w64_nat {i : Nat} (h : i < 1000) : wrap64 ((i : Int) + 1) = ((i + 1 : Nat) : Int) := by unfold wrap64; omega
theorem pos_cast {x : Nat} : ((x : Int) > 0) ↔ x > 0 := Int.natCast_pos
theorem fin_neg (V : Nat) (h : V < 340282366920938463463374607431768211456) : (if ((decide (mkHi (-(V : Int)) < 0)) != true) = true then some ((0 : Int), (0 : Int), (11 : Int)) else some (mkHi (-(V : Int)), mkLo (-(V : Int)), 0)) = some (fin3 true V) := by
  unfold fin3
  rw [if_pos rfl]
  split <;> rfl
theorem fin_pos (V : Nat) (h : V < 340282366920938463463374607431768211456) : (if ((decide (mkHi (V : Int) < 0)) != false) = true then some ((0 : Int), (0 : Int), (11 : Int)) else some (mkHi (V : Int), mkLo (V : Int), 0)) = some (fin3 false V) := by
  unfold fin3
  rw [if_neg (show ¬ (false = true) by decide)]
  split <;> rfl
/-- What one digit more makes. -/
def ovf (H L D : Nat) : Prop := H * 10 / 18446744073709551616 > 0 ∨ (H * 10 % 18446744073709551616 + L * 10 / 18446744073709551616 + (L * 10 % 18446744073709551616 + D) / 18446744073709551616) / 18446744073709551616 > 0
instance (H L D : Nat) : Decidable (ovf H L D) := by unfold ovf; exact inferInstance
def nhi (H L D : Nat) : Nat := (H * 10 % 18446744073709551616 + L * 10 / 18446744073709551616 + (L * 10 % 18446744073709551616 + D) / 18446744073709551616) % 18446744073709551616
def nlo (L D : Nat) : Nat := (L * 10 % 18446744073709551616 + D) % 18446744073709551616
theorem step_cases (H L D : Nat) (hH : H < 18446744073709551616) (hL : L < 18446744073709551616) (hD : D < 10) :
    (ovf H L D ∧ 340282366920938463463374607431768211456 ≤ 10 * (H * 18446744073709551616 + L) + D) ∨ (¬ ovf H L D ∧ True ∧ ∃ hi2 lo2 : Nat, nhi H L D = hi2 ∧ nlo L D = lo2 ∧ hi2 < 18446744073709551616 ∧ lo2 < 18446744073709551616 ∧ hi2 * 18446744073709551616 + lo2 = 10 * (H * 18446744073709551616 + L) + D) := by
  obtain ⟨c, hc⟩ : ∃ c, L * 10 / 18446744073709551616 = c := ⟨_, rfl⟩
  obtain ⟨lo, hlo⟩ : ∃ c, L * 10 % 18446744073709551616 = c := ⟨_, rfl⟩
  obtain ⟨ov, hov⟩ : ∃ c, H * 10 / 18446744073709551616 = c := ⟨_, rfl⟩
  obtain ⟨hi, hhi⟩ : ∃ c, H * 10 % 18446744073709551616 = c := ⟨_, rfl⟩
  have h1 : 18446744073709551616 * c + lo = L * 10 := by rw [← hc, ← hlo]; exact Nat.div_add_mod _ _
  have h3 : 18446744073709551616 * ov + hi = H * 10 := by rw [← hov, ← hhi]; exact Nat.div_add_mod _ _
  unfold ovf nhi nlo
  rw [hc, hlo, hov, hhi]
  clear hc hlo hov hhi
  obtain ⟨u, hu⟩ : ∃ c, (lo + D) / 18446744073709551616 = c := ⟨_, rfl⟩
  obtain ⟨lo2, hlo2⟩ : ∃ c, (lo + D) % 18446744073709551616 = c := ⟨_, rfl⟩
  have h2 : 18446744073709551616 * u + lo2 = lo + D := by rw [← hu, ← hlo2]; exact Nat.div_add_mod _ _
  have k2 : lo2 < 18446744073709551616 := by rw [← hlo2]; exact Nat.mod_lt _ (by decide)
  rw [hu, hlo2]
  clear hu hlo2
  obtain ⟨up, hup⟩ : ∃ x, (hi + c + u) / 18446744073709551616 = x := ⟨_, rfl⟩
  obtain ⟨hi2, hhi2⟩ : ∃ x, (hi + c + u) % 18446744073709551616 = x := ⟨_, rfl⟩
  have h4 : 18446744073709551616 * up + hi2 = hi + c + u := by rw [← hup, ← hhi2]; exact Nat.div_add_mod _ _
  have k4 : hi2 < 18446744073709551616 := by rw [← hhi2]; exact Nat.mod_lt _ (by decide)
  rw [hup, hhi2]
  clear hup hhi2
  have h := step_ar H L D c lo u lo2 ov hi up hi2 h1 h2 h3 h4
  clear h1 h2 h3 h4
  generalize 10 * (H * 18446744073709551616 + L) + D = V at h ⊢
  by_cases ho : ov > 0 ∨ up > 0
  · exact .inl ⟨ho, by omega⟩
  · exact .inr ⟨ho, trivial, hi2, lo2, rfl, rfl, k4, k2, by omega⟩
section
variable {l : List Int} (hb : ByB l)
include hb
theorem l1_step (x4 : Bool) (K : Nat) {i : Nat} (hlt : i < l.length) (hi : i < 1000) {c : Int} (hc : l[i]? = some c) {D : Nat} (hD : c - 48 = (D : Int)) (hD10 : D < 10) (hD256 : (D : Int) % 256 = D) {H L : Nat} (hH : H < 18446744073709551616) (hL : L < 18446744073709551616) :
    wide_Parse.l1 (K + 1) (strOfNums l) x4 H L l.length i = if ovf H L D then some (0, 0, 11) else wide_Parse.l1 K (strOfNums l) x4 (nhi H L D : Nat) (nlo L D : Nat) l.length (i + 1 : Nat) := by
  have hwr := w64_nat hi
  have hu1 := u_le L D hD10
  have g1 : (i : Int) < (l.length : Int) := Int.ofNat_lt.2 hlt
  have g2 : (i : Int) < ((strOfNums l).size : Int) := by rw [strOfNums_size]; exact g1
  have ha1 := add64_nat (L * 10 % 18446744073709551616) D 0 (by decide)
  rw [Nat.add_zero] at ha1
  have hm1 := mul64_f L 10 hL (by decide)
  have hm2 := mul64_f H 10 hH (by decide)
  rw [show ((10 : Nat) : Int) = 10 from rfl] at hm1 hm2
  rw [show ((0 : Nat) : Int) = 0 from rfl] at ha1
  rw [wide_Parse.l1, if_pos g1, hm1]
  simp only [Option.bind_some]
  rw [if_pos (Int.natCast_nonneg _), if_pos g2, bt_str hb hc, hD, hD256, ha1]
  simp only [Option.bind_some]
  rw [hm2]
  simp only [Option.bind_some]
  rw [add64_nat _ _ _ hu1]
  simp only [Option.bind_some]
  rw [hwr]
  unfold nhi nlo
  by_cases h1 : H * 10 / 18446744073709551616 > 0
  · rw [if_pos (pos_cast.2 h1), if_pos (show ovf H L D from .inl h1)]
  · rw [if_neg (fun h => h1 (pos_cast.1 h))]
    by_cases h2 : (H * 10 % 18446744073709551616 + L * 10 / 18446744073709551616 + (L * 10 % 18446744073709551616 + D) / 18446744073709551616) / 18446744073709551616 > 0
    · rw [if_pos (pos_cast.2 h2), if_pos (show ovf H L D from .inr h2)]
    · rw [if_neg (fun h => h2 (pos_cast.1 h)), if_neg (show ¬ ovf H L D from fun h => h.elim h1 h2)]
theorem parse_l1 (x4 : Bool) (hl : l.length ≤ 39) (hd : digs l = true) (d : Nat) : ∀ (k i : Nat) (H L : Nat), i + d = l.length → H < 18446744073709551616 → L < 18446744073709551616 →
    wide_Parse.l1 (k + d + 1) (strOfNums l) x4 H L l.length i = some (if 340282366920938463463374607431768211456 ≤ vD (H * 18446744073709551616 + L) (l.drop i) then (0, 0, 11) else fin3 x4 (vD (H * 18446744073709551616 + L) (l.drop i))) := by
  induction d with
  | zero =>
    intro k i H L hi hH hL
    obtain rfl : i = l.length := by omega
    have hV0 : H * 18446744073709551616 + L < 340282366920938463463374607431768211456 := by omega
    rw [wide_Parse.l1, if_neg (Int.lt_irrefl _), List.drop_length, vD, if_neg (show ¬ 340282366920938463463374607431768211456 ≤ H * 18446744073709551616 + L by omega)]
    obtain ⟨e1, e2⟩ := mk_nat H L hH hL
    obtain ⟨V, hV⟩ : ∃ V : Nat, H * 18446744073709551616 + L = V := ⟨_, rfl⟩
    rw [hV] at e1 e2
    rw [hV] at hV0
    rw [hV, e1]
    conv => lhs; rw [e2]
    cases x4 with
    | true =>
      rw [if_pos rfl, neg_mk_mk]
      simp only [Option.bind_some]
      exact fin_neg V hV0
    | false =>
      rw [if_neg (show ¬ (false = true) by decide)]
      exact fin_pos V hV0
  | succ d ih =>
    intro k i H L hi hH hL
    have hlt : i < l.length := by omega
    obtain ⟨c, hc⟩ : ∃ c, l[i]? = some c := ⟨_, List.getElem?_eq_getElem hlt⟩
    have hcm := List.mem_of_getElem? hc
    have hcd := (List.all_eq_true.1 hd) c hcm
    simp only [Bool.and_eq_true, decide_eq_true_eq] at hcd
    have hdrop : l.drop i = c :: l.drop (i + 1) := by
      rw [List.drop_eq_getElem_cons hlt]
      have := (List.getElem?_eq_some_iff.1 hc).2
      rw [this]
    obtain ⟨D, hD, hD10, hDn, hD256⟩ := dig_nat hcd
    have hst := l1_step hb x4 (k + d + 1) hlt (by omega) hc hD hD10 hD256 hH hL
    rw [show k + (d + 1) + 1 = (k + d + 1) + 1 from rfl, hst, hdrop, vD, hDn]
    have hge := vD_ge (l.drop (i + 1)) (10 * (H * 18446744073709551616 + L) + D)
    rcases step_cases H L D hH hL hD10 with ⟨h1, h2⟩ | ⟨h1, h2, hi2, lo2, h3, h4, h5, h6, h7⟩
    · generalize 10 * (H * 18446744073709551616 + L) + D = V at h2 hge ⊢
      rw [if_pos h1, if_pos (show 340282366920938463463374607431768211456 ≤ vD V (l.drop (i + 1)) by omega)]
    · rw [if_neg h1, h3, h4, ih k (i + 1) hi2 lo2 (by omega) h5 h6, h7]
theorem parse_l0 (x4 : Bool) (hl : l.length ≤ 1000) (d : Nat) : ∀ (k i : Nat), i + d = l.length → digs (l.take i) = true →
    wide_Parse.l0 (k + 41 + d + 1) (strOfNums l) x4 l.length i = some (body3 x4 l) := by
  induction d with
  | zero =>
    intro k i hi hd
    obtain rfl : i = l.length := by omega
    rw [List.take_length] at hd
    rw [wide_Parse.l0, if_neg (Int.lt_irrefl _), strOfNums_size, body3, if_pos hd]
    by_cases h : 39 < l.length
    · rw [if_pos (by omega), if_pos h]
    · rw [if_neg (by omega), if_neg h]
      have := parse_l1 hb x4 (by omega) hd l.length (k + 40 - l.length) 0 0 0 (by omega) (by decide) (by decide)
      rw [show k + 40 - l.length + l.length + 1 = k + 41 + 0 by omega] at this
      rw [show (0 : Int) = ((0 : Nat) : Int) from rfl, this]
      simp only [Nat.zero_mul, Nat.zero_add, List.drop_zero]
      split <;> rfl
  | succ d ih =>
    intro k i hi hd
    have hlt : i < l.length := by omega
    obtain ⟨c, hc⟩ : ∃ c, l[i]? = some c := ⟨_, List.getElem?_eq_getElem hlt⟩
    have hcm := List.mem_of_getElem? hc
    rw [show k + 41 + (d + 1) + 1 = (k + 41 + d + 1) + 1 from rfl, wide_Parse.l0, if_pos (by omega), if_pos (by omega), if_pos (by rw [strOfNums_size]; omega), bt_str hb hc]
    have hno : ∀ (h : c < 48 ∨ 57 < c), body3 x4 l = (0, 0, 3) := by
      intro h
      rw [body3, if_neg]
      intro h2
      have := (List.all_eq_true.1 h2) c hcm
      simp only [Bool.and_eq_true, decide_eq_true_eq] at this
      omega
    by_cases h1 : c < 48
    · rw [if_pos h1, hno (.inl h1)]
    · rw [if_neg h1]
      by_cases h2 : c > 57
      · rw [if_pos h2, hno (.inr h2)]
      · rw [if_neg h2, show wrap64 ((i : Int) + 1) = ((i + 1 : Nat) : Int) by unfold wrap64; omega]
        refine ih k (i + 1) (by omega) ?_
        rw [List.take_add_one, hc]
        unfold digs at hd ⊢
        rw [List.all_append, hd]
        simp
        omega
theorem parse_j1 (x4 : Bool) (hl : l.length ≤ 300) (k : Nat) : wide_Parse.j1 (k + 345) (strOfNums l) x4 = some (if badD x4 l = true then (0, 0, 3) else body3 x4 l) := by
  have h0 := parse_l0 hb x4 (by omega) l.length (k + 301 - l.length) 0 (by omega) (by rfl)
  rw [show k + 301 - l.length + 41 + l.length + 1 = k + 343 by omega] at h0
  rw [show k + 345 = (k + 344) + 1 from rfl, wide_Parse.j1]
  have hj : ∀ b : Bool, wide_Parse.j2 (k + 344) (strOfNums l) x4 b = some (if b = true then (0, 0, 3) else body3 x4 l) := by
    intro b
    rw [show k + 344 = (k + 343) + 1 from rfl, wide_Parse.j2]
    cases b with
    | true => rw [if_pos rfl, if_pos rfl]
    | false => rw [if_neg (by decide), if_neg (by decide), strOfNums_size]; exact h0
  rw [strOfNums_size]
  cases l with
  | nil => rw [if_pos ((str_nil []).2 rfl), hj]; rfl
  | cons c t =>
    rw [if_neg (fun h => by have := (str_nil _).1 h; cases this), if_pos (by simp), show bt (strOfNums (c :: t)) 0 = c from bt_str hb (i := 0) rfl, hj, hj, hj]
    by_cases h : c = 48
    · subst h
      rw [if_pos rfl]
      cases t with
      | nil => rw [if_neg (by decide)]; cases x4 <;> rfl
      | cons x t => rw [if_pos (by simp only [List.length_cons]; omega), if_pos rfl]; rfl
    · rw [if_neg h, if_neg (by decide)]
      have e : badD x4 (c :: t) = false := by simp [badD, h]
      rw [e, if_neg (by decide)]
end
theorem parse_f {l : List Int} (hb : ByB l) (hl : l.length ≤ 300) (k : Nat) : wide_Parse.f (k + 346) (strOfNums l) = some (parse3 l) := by
  unfold wide_Parse.f
  rw [strOfNums_size]
  cases l with
  | nil =>
    rw [if_neg (by decide), show k + 346 = (k + 345) + 1 from rfl, wide_Parse.j0, if_neg (by decide), parse_j1 (fun x hx => by cases hx) false (by simp) k]
    rfl
  | cons c t =>
    rw [if_pos (by simp), if_pos (by simp), show bt (strOfNums (c :: t)) 0 = c from bt_str hb (i := 0) rfl, show k + 346 = (k + 345) + 1 from rfl, wide_Parse.j0, strOfNums_size]
    by_cases h : c = 45
    · subst h
      have e : (strOfNums (45 :: t)).extract 1 (45 :: t).length = strOfNums t := by
        have := str_drop (45 :: t)
        rwa [strOfNums_size] at this
      rw [if_pos (by decide), if_pos (by simp; omega), show ((45 : Int) == 45) = true from rfl]
      rw [e, parse_j1 (fun x hx => hb x (List.mem_cons_of_mem _ hx)) true (by simp at hl; omega) k]
      rfl
    · rw [show (c == 45) = false from beq_eq_false_iff_ne.2 h, if_neg (by decide), parse_j1 hb false hl k]
      have e : parse3 (c :: t) = if badD false (c :: t) = true then (0, 0, 3) else body3 false (c :: t) := by
        unfold parse3
        split
        · next h2 => simp at h2; exact absurd h2.1 h
        · rfl
      rw [e]
/-- Digits of a number and back. -/
theorem digs_app (l : List Int) (c : Int) : digs (l ++ [c]) = (digs l && (decide (48 ≤ c) && decide (c ≤ 57))) := by simp [digs]
theorem dec_digs (n : Nat) : digs (dec n) = true := by
  induction n using Nat.strongRecOn with
  | _ n ih =>
    by_cases h : n < 10
    · rw [dec_lt h]; simp [digs]; omega
    · rw [dec_ge h, digs_app, ih (n / 10) (by omega)]; simp; omega
theorem dec_val (n : Nat) : vD 0 (dec n) = n := by
  induction n using Nat.strongRecOn with
  | _ n ih =>
    by_cases h : n < 10
    · rw [dec_lt h]; simp [vD]; omega
    · rw [dec_ge h, vD_app, ih (n / 10) (by omega)]; omega
theorem dec_head (n : Nat) : n < 10 ∨ ∃ c t, dec n = c :: t ∧ c ≠ 48 := by
  induction n using Nat.strongRecOn with
  | _ n ih =>
    by_cases h : n < 10
    · exact .inl h
    · right
      rw [dec_ge h]
      rcases ih (n / 10) (by omega) with h2 | ⟨c, t, h2, h3⟩
      · rw [dec_lt h2]; exact ⟨_, _, rfl, by omega⟩
      · rw [h2]; exact ⟨c, t ++ [_], rfl, h3⟩
theorem dec_len (m : Nat) : ∀ n, n < 10 ^ (m + 1) → (dec n).length ≤ m + 1 := by
  induction m with
  | zero => intro n h; rw [dec_lt (by simpa using h)]; simp
  | succ m ih =>
    intro n h
    by_cases h2 : n < 10
    · rw [dec_lt h2]; simp
    · rw [dec_ge h2, List.length_append]
      have := ih (n / 10) (by rw [Nat.pow_succ] at h; omega)
      simp; omega
theorem dec_back (d : List Int) (hd : digs d = true) (h0 : d ≠ []) (hz : badD false d = false) : dec (vD 0 d) = d := by
  obtain ⟨m, hm⟩ : ∃ m, m = d.length := ⟨_, rfl⟩
  induction m generalizing d with
  | zero => exact absurd (List.length_eq_zero_iff.1 hm.symm) h0
  | succ m ih =>
    rcases List.eq_nil_or_concat d with rfl | ⟨t, c, rfl⟩
    · exact absurd rfl h0
    rw [List.concat_eq_append] at *
    rw [digs_app] at hd
    simp only [Bool.and_eq_true, decide_eq_true_eq] at hd
    rw [vD_app]
    by_cases ht : t = []
    · subst ht
      rw [dec_lt (by simp [vD]; omega)]
      simp [vD]; omega
    · have hz2 : badD false t = false ∧ 1 ≤ vD 0 t := by
        cases t with
        | nil => exact absurd rfl ht
        | cons x t =>
          simp only [List.cons_append, badD, Bool.or_false, Bool.and_eq_false_iff, beq_eq_false_iff_ne, Bool.not_eq_false'] at hz
          have hx : x ≠ 48 := by
            rcases hz with h | h
            · exact h
            · simp at h
          have hxd := hd.1
          rw [digs_cons] at hxd
          simp only [Bool.and_eq_true, decide_eq_true_eq] at hxd
          refine ⟨by simp [badD, hx], ?_⟩
          have := vD_ge t (10 * 0 + (x - 48).toNat)
          rw [vD]; omega
      rw [dec_ge (by omega)]
      have e1 : (10 * vD 0 t + (c - 48).toNat) / 10 = vD 0 t := by omega
      have e2 : (10 * vD 0 t + (c - 48).toNat) % 10 = (c - 48).toNat := by omega
      rw [e1, e2, ih t hd.1 ht hz2.1 (by simp at hm; omega)]
      congr 2; omega
theorem prN_vl (a0 a1 : Int) (h1 : 0 ≤ a1) (h2 : a1 < 18446744073709551616) (h3 : -9223372036854775808 ≤ a0) (h4 : a0 < 9223372036854775808) : (prN a0 a1 : Int) = if a0 < 0 then -(vl a0 a1) else vl a0 a1 := by
  unfold prN prHi prLo
  by_cases h : a0 < 0
  · rw [if_pos h, if_pos h, if_pos h, (neg_mk a0 a1 h1 h2 h3 h4).1, (neg_mk a0 a1 h1 h2 h3 h4).2]
    unfold mkHi mkLo wrap64
    simp only [IntKind.wrap_u64]
    unfold vl
    omega
  · rw [if_neg h, if_neg h, if_neg h]
    simp only [IntKind.wrap_u64]
    unfold vl
    omega
/-- What is printed is parsed. -/
theorem parse_print (a0 a1 : Int) (h1 : 0 ≤ a1) (h2 : a1 < 18446744073709551616) (h3 : -9223372036854775808 ≤ a0) (h4 : a0 < 9223372036854775808) : parse3 (prOut a0 a1) = (a0, a1, 0) := by
  have hN := prN_vl a0 a1 h1 h2 h3 h4
  obtain ⟨n, hn⟩ : ∃ n, prN a0 a1 = n := ⟨_, rfl⟩
  have hmk := mk_vl a0 a1 h1 h2 h3 h4
  have hlen : (dec n).length ≤ 39 := dec_len 38 n (by
    rw [show (10 : Nat) ^ (38 + 1) = 1000000000000000000000000000000000000000 from rfl]
    rw [hn] at hN; unfold vl at hN; split at hN <;> omega)
  have hbody : ∀ neg : Bool, (neg = true ↔ a0 < 0) → body3 neg (dec n) = (a0, a1, 0) := by
    intro neg hneg
    rw [body3, if_pos (dec_digs n), if_neg (by omega), dec_val, if_neg (by rw [hn] at hN; unfold vl at hN; split at hN <;> omega), fin3]
    have e : (if neg = true then -(n : Int) else (n : Int)) = vl a0 a1 := by
      rw [hn] at hN
      cases neg with
      | true => rw [if_pos rfl, hN, if_pos (hneg.1 rfl)]; omega
      | false => rw [if_neg (by decide), hN, if_neg (fun h => by have := hneg.2 h; cases this)]
    rw [e, hmk.1, hmk.2, if_neg]
    cases neg with
    | true => rw [decide_eq_true (hneg.1 rfl)]; decide
    | false => rw [decide_eq_false (fun h => by have := hneg.2 h; cases this)]; decide
  unfold prOut
  rw [hn]
  by_cases h : a0 < 0
  · rw [if_pos h]
    show (if badD true (dec n) = true then (0, 0, 3) else body3 true (dec n)) = _
    rw [if_neg, hbody true (by simp [h])]
    rcases dec_head n with h5 | ⟨c, t, h5, h6⟩
    · rw [dec_lt h5]
      simp only [badD, Bool.and_eq_true, beq_iff_eq]
      rw [hn, if_pos h] at hN; unfold vl at hN; omega
    · rw [h5]; simp [badD, h6]
  · rw [if_neg h]
    have hnot : ∀ t, dec n ≠ 45 :: t := by
      intro t e
      have := dec_digs n
      rw [e, digs_cons] at this
      simp at this
    have e : parse3 (dec n) = if badD false (dec n) = true then (0, 0, 3) else body3 false (dec n) := by
      unfold parse3
      split
      · next d he => exact absurd he (hnot d)
      · rfl
    rw [e, if_neg, hbody false (by simp [h])]
    rcases dec_head n with h5 | ⟨c, t, h5, h6⟩
    · rw [dec_lt h5]; simp [badD]
    · rw [h5]; simp [badD, h6]
theorem body_back {neg : Bool} {d : List Int} {p0 p1 : Int} (h : body3 neg d = (p0, p1, 0)) (hz : badD neg d = false) :
    (0 ≤ p1 ∧ p1 < 18446744073709551616 ∧ -9223372036854775808 ≤ p0 ∧ p0 < 9223372036854775808) ∧ prOut p0 p1 = (if neg = true then 45 :: d else d) ∧ vl p0 p1 = (if neg = true then -(vD 0 d : Int) else vD 0 d) ∧ d.length ≤ 39 ∧ digs d = true := by
  unfold body3 at h
  have c3 : ¬ ((0 : Int), (0 : Int), (3 : Int)) = (p0, p1, 0) := by simp
  have c11 : ¬ ((0 : Int), (0 : Int), (11 : Int)) = (p0, p1, 0) := by simp
  by_cases hd : digs d = true
  case neg => rw [if_neg hd] at h; exact absurd h c3
  rw [if_pos hd] at h
  by_cases hl : 39 < d.length
  · rw [if_pos hl] at h; exact absurd h c11
  rw [if_neg hl] at h
  obtain ⟨V, hV⟩ : ∃ V, vD 0 d = V := ⟨_, rfl⟩
  rw [hV] at h
  by_cases hv : 340282366920938463463374607431768211456 ≤ V
  · rw [if_pos hv] at h; exact absurd h c11
  rw [if_neg hv, fin3] at h
  have hne : d ≠ [] := by rintro rfl; simp [badD] at hz
  have hz2 : badD false d = false := by
    cases d with
    | nil => exact absurd rfl hne
    | cons c t => cases neg <;> simp_all [badD]
  have hback := dec_back d hd hne hz2
  rw [hV] at hback
  obtain ⟨z, hzz⟩ : ∃ z : Int, (if neg = true then -(V : Int) else V) = z := ⟨_, rfl⟩
  rw [hzz] at h
  by_cases hs : ((decide (mkHi z < 0)) != neg) = true
  · rw [if_pos hs] at h; exact absurd h c11
  rw [if_neg hs] at h
  simp only [Prod.mk.injEq, and_true] at h
  obtain ⟨rfl, rfl⟩ := h
  have hs2 : decide (mkHi z < 0) = neg := by simpa using hs
  have hr : -170141183460469231731687303715884105728 ≤ z ∧ z < 170141183460469231731687303715884105728 := by
    cases neg with
    | true =>
      rw [if_pos rfl] at hzz
      have := of_decide_eq_true hs2
      unfold mkHi wrap64 at this
      omega
    | false =>
      rw [if_neg (by decide)] at hzz
      have := of_decide_eq_false hs2
      unfold mkHi wrap64 at this
      omega
  have hvl := vl_mk z hr.1 hr.2
  refine ⟨⟨mkLo_nn _, mkLo_lt _, mkHi_ge _, mkHi_lt _⟩, ?_, by rw [hvl, hV, hzz], by omega, hd⟩
  have hN := prN_vl (mkHi z) (mkLo z) (mkLo_nn _) (mkLo_lt _) (mkHi_ge _) (mkHi_lt _)
  rw [hvl] at hN
  have e : prN (mkHi z) (mkLo z) = V := by
    cases neg with
    | true =>
      rw [if_pos rfl] at hzz
      rw [if_pos (of_decide_eq_true hs2)] at hN
      omega
    | false =>
      rw [if_neg (by decide)] at hzz
      rw [if_neg (of_decide_eq_false hs2)] at hN
      omega
  unfold prOut
  rw [e, hback]
  cases neg with
  | true => rw [if_pos (of_decide_eq_true hs2), if_pos rfl]
  | false => rw [if_neg (of_decide_eq_false hs2), if_neg (by decide)]
/-- What is parsed is printed so. -/
theorem print_parse {l : List Int} {p0 p1 : Int} (h : parse3 l = (p0, p1, 0)) : (0 ≤ p1 ∧ p1 < 18446744073709551616 ∧ -9223372036854775808 ≤ p0 ∧ p0 < 9223372036854775808) ∧ prOut p0 p1 = l := by
  unfold parse3 at h
  split at h
  · next d =>
    by_cases hz : badD true d = true
    · rw [if_pos hz] at h; simp at h
    · rw [if_neg hz] at h
      have := body_back h (by simpa using hz)
      exact ⟨this.1, this.2.1⟩
  · next d _ =>
    by_cases hz : badD false l = true
    · rw [if_pos hz] at h; simp at h
    · rw [if_neg hz] at h
      have := body_back h (by simpa using hz)
      exact ⟨this.1, this.2.1⟩

end Go.Proofs.Ytjmobjjajnnodaa.P
