/- CrcBack, in plain Lean, and its walk: frames go there and back, one behind the other; cut anywhere, those that are whole are read. No conditions. -/
import Derived.Test.YthdkcfobhofmpaaPrickyardlaw05CrcBack
import Derived.Test.YthdkcfobhofmpaaPureCrcFrames
namespace Go.Proofs.Ythdkcfobhofmpaa.Pure
open Go.RowKit Go.Proofs.Ythdkcfobhofmpaa.P Go.Proofs.YthdkcfobhofmpaaW.PrintWords Go.Proofs.YthdkcfobhofmpaaW.PrintLast
set_option linter.unusedVariables false
set_option linter.unusedSimpArgs false

/-- The frames of a list, one behind the other. -/
def cat (l : List (List Int)) : List Int := (l.map frame).flatten
theorem cat_cons (d : List Int) (l : List (List Int)) : cat (d :: l) = frame d ++ cat l := rfl
theorem cat_append (l m : List (List Int)) : cat (l ++ m) = cat l ++ cat m := by unfold cat; simp
theorem cat_bytes {l : List (List Int)} (h : ∀ d ∈ l, IsBytes d) : IsBytes (cat l) := by
  induction l with
  | nil => intro x hx; cases hx
  | cons d l ih => rw [cat_cons]; exact (frame_bytes (h d (by simp))).append (ih fun e he => h e (by simp [he]))
theorem cat_length {l : List (List Int)} (h : ∀ d ∈ l, d.length ≤ 300) : (cat l).length ≤ 308 * l.length := by
  induction l with
  | nil => simp [cat]
  | cons d l ih =>
    have h1 := ih fun e he => h e (by simp [he])
    have h2 := h d (by simp)
    rw [cat_cons, List.length_append, frame_length, List.length_cons]
    omega
theorem num4_frame {d : List Int} (h : d.length ≤ 65535) (r : List Int) : num4 (frame d ++ r) = d.length := by
  unfold frame
  rw [List.append_assoc, List.append_assoc]
  exact num4_four _ (by omega) (by omega) _
theorem four_sum (l : List Int) (r : List Int) : num4 (four (sumOf l) ++ r) = sumOf l := num4_four _ (bvi_nonneg _) (bvi_lt _) _
/-- A frame at the front is read. -/
theorem nextS_frame {d : List Int} (h : d.length ≤ 65535) (r : List Int) : nextS (frame d ++ r) = (d, (d.length : Int) + 8, 0) := by
  have hl : (frame d ++ r).length = d.length + 8 + r.length := by rw [List.length_append, frame_length]
  unfold nextS
  rw [num4_frame h, if_neg (by omega), if_neg (by omega), if_neg (by omega), Int.toNat_natCast]
  have e1 : (frame d ++ r).take (d.length + 4) = four d.length ++ d := by
    unfold frame
    rw [List.append_assoc (four ↑d.length ++ d), List.take_append_of_le_length (by rw [List.length_append, four_length]; omega), List.take_of_length_le (by rw [List.length_append, four_length]; omega)]
  have e2 : (frame d ++ r).drop (d.length + 4) = four (sumOf (four d.length ++ d)) ++ r := by
    unfold frame
    rw [List.append_assoc (four ↑d.length ++ d), List.drop_append, List.drop_of_length_le (by rw [List.length_append, four_length]; omega), List.length_append, four_length]
    simp [Nat.add_comm]
  rw [e1, e2, four_sum, if_pos rfl]
  rfl
/-- A frame that is cut is none. -/
theorem nextS_cut {d : List Int} (h : d.length ≤ 65535) (r : List Int) {c : Nat} (hc : c < d.length + 8) : (nextS ((frame d ++ r).take c)).2.2 ≠ 0 := by
  have hl : (frame d ++ r).length = d.length + 8 + r.length := by rw [List.length_append, frame_length]
  have hlt : ((frame d ++ r).take c).length = c := by rw [List.length_take]; omega
  unfold nextS
  rw [hlt]
  by_cases h4 : c < 4
  · rw [if_pos h4]; decide
  · rw [if_neg h4]
    have hn : num4 ((frame d ++ r).take c) = d.length := by
      have e : (frame d ++ r).take c = four d.length ++ ((d ++ four (sumOf (four d.length ++ d)) ++ r).take (c - 4)) := by
        unfold frame
        rw [List.append_assoc, List.append_assoc, List.take_append, List.take_of_length_le (by rw [four_length]; omega), four_length, List.append_assoc]
      rw [e]
      exact num4_four _ (by omega) (by omega) _
    rw [hn, if_neg (by omega), if_pos (by omega)]
    simp
theorem nextS_nil : (nextS []).2.2 ≠ 0 := by unfold nextS; simp

/-- Frames in a row, and then none: all of them are read. -/
theorem allN_cat (L : List Int) (tail : List Int) (ht : (nextS tail).2.2 ≠ 0) (l : List (List Int)) (hl : ∀ d ∈ l, d.length ≤ 300) : ∀ (k at_ : Nat) (out : List (List Int)), L.drop at_ = cat l ++ tail → l.length ≤ k →
    allN k L at_ out = (out ++ l, at_ + (cat l).length) := by
  induction l with
  | nil =>
    intro k at_ out hd hk
    have hd' : L.drop at_ = tail := hd
    rw [allN_stop L at_ out (by rw [hd']; exact ht) k]
    simp [cat]
  | cons d l ih =>
    intro k at_ out hd hk
    obtain ⟨k, rfl⟩ : ∃ j, k = j + 1 := ⟨k - 1, by simp at hk; omega⟩
    have h2 := hl d (by simp)
    rw [cat_cons, List.append_assoc] at hd
    have hn := nextS_frame (d := d) (by omega) (cat l ++ tail)
    rw [← hd] at hn
    unfold allN
    rw [hn]
    simp only [if_true]
    have e8 : ((d.length : Int) + 8).toNat = d.length + 8 := by omega
    rw [e8, ih (fun e he => hl e (by simp [he])) k (at_ + (d.length + 8)) (out ++ [d]) ?_ (by simp at hk; omega)]
    · rw [cat_cons, List.length_append, frame_length]
      simp only [List.append_assoc, List.singleton_append, Prod.mk.injEq, true_and]
      omega
    · rw [← List.drop_drop, hd, List.drop_append, List.drop_of_length_le (by rw [frame_length]; exact Nat.le_refl _), frame_length]
      simp
theorem allS_cat (tail : List Int) (ht : (nextS tail).2.2 ≠ 0) (l : List (List Int)) (hl : ∀ d ∈ l, d.length ≤ 300) : allS (cat l ++ tail) = (l, (cat l).length) := by
  unfold allS
  have hb : l.length ≤ (cat l).length := by
    clear ht tail
    induction l with
    | nil => simp
    | cons d l ih =>
      have h1 := ih fun e he => hl e (by simp [he])
      rw [cat_cons, List.length_append, frame_length, List.length_cons]; omega
  rw [allN_cat _ tail ht l hl _ 0 [] rfl (by rw [List.length_append]; omega)]
  simp

/-- Where frame i ends. -/
def endAt (l : List (List Int)) (i : Nat) : Nat := (cat (l.take (i + 1))).length
theorem cat_take_succ (l : List (List Int)) {i : Nat} (h : i < l.length) : cat (l.take (i + 1)) = cat (l.take i) ++ frame l[i] := by
  rw [List.take_succ_eq_append_getElem h, cat_append]
  simp [cat]
theorem cat_split (l : List (List Int)) {i : Nat} (h : i < l.length) : cat l = cat (l.take i) ++ (frame l[i] ++ cat (l.drop (i + 1))) := by
  conv => lhs; rw [← List.take_append_drop i l, cat_append, List.drop_eq_getElem_cons h, cat_cons]
theorem endAt_le (l : List (List Int)) (i : Nat) : endAt l i ≤ (cat l).length := by
  have : cat l = cat (l.take (i + 1)) ++ cat (l.drop (i + 1)) := by rw [← cat_append, List.take_append_drop]
  rw [this, List.length_append]
  exact Nat.le_add_right _ _
/-- What is cut where the first i frames are whole and the next one is not. -/
theorem cut_whole {l : List (List Int)} (hl : ∀ d ∈ l, d.length ≤ 300) {i c : Nat} (hi : i ≤ l.length) (h1 : (cat (l.take i)).length ≤ c) (h2 : i < l.length → c < endAt l i) (h3 : c ≤ (cat l).length) :
    allS ((cat l).take c) = (l.take i, (cat (l.take i)).length) := by
  by_cases h : i < l.length
  · have hs := cat_split l h
    have hc := h2 h
    unfold endAt at hc
    rw [cat_take_succ l h, List.length_append, frame_length] at hc
    have e : (cat l).take c = cat (l.take i) ++ (frame l[i] ++ cat (l.drop (i + 1))).take (c - (cat (l.take i)).length) := by
      conv => lhs; rw [hs]
      rw [List.take_append, List.take_of_length_le h1]
    have h65 := hl _ (List.getElem_mem h)
    rw [e, allS_cat _ (nextS_cut (by omega) _ (by omega)) _ (fun d hd => hl d (List.mem_of_mem_take hd))]
  · have : i = l.length := by omega
    subst this
    rw [List.take_length] at h1 ⊢
    rw [List.take_of_length_le h1]
    have := allS_cat [] nextS_nil l hl
    rwa [List.append_nil] at this

def endsL (l : List (List Int)) (i : Nat) : List Int := (List.range i).map fun j => ((endAt l j : Nat) : Int)
theorem endsL_length (l : List (List Int)) (i : Nat) : (endsL l i).length = i := by simp [endsL]
theorem endsL_succ (l : List (List Int)) (i : Nat) : endsL l (i + 1) = endsL l i ++ [((endAt l i : Nat) : Int)] := by simp [endsL, List.range_succ]
theorem endsL_at (l : List (List Int)) {i n : Nat} (h : i < n) : rd (endsL l n) (i : Int) = ((endAt l i : Nat) : Int) := by
  unfold Go.Proofs.YthdkcfobhofmpaaW.PrintWords.rd
  rw [Int.toNat_natCast, List.getD_eq_getElem?_getD]
  simp [endsL, h]

theorem rd_L {l : List (List Int)} {i : Nat} (h : i < l.length) : rd_L2 l (i : Int) = l[i] := by simp [rd_L2, h]
theorem w64_up {i : Nat} (h : i ≤ 1000) : wrap64 ((i : Int) + 1) = ((i + 1 : Nat) : Int) := by unfold wrap64; omega
theorem w64_dn {i : Nat} (h : i ≤ 1000) (h0 : 0 < i) : wrap64 ((i : Int) - 1) = ((i - 1 : Nat) : Int) := by unfold wrap64; omega

theorem back_l1 (l : List (List Int)) (hn : l.length ≤ 20) (hb : ∀ d ∈ l, IsBytes d) (hl : ∀ d ∈ l, d.length ≤ 300) (c : Nat) (hc : c ≤ (cat l).length) (m : Nat) : ∀ (k i : Nat), i + m = l.length → (cat (l.take i)).length ≤ c →
    rickyardlaw05_CrcBack.l1 (k + 30 + m + 1) l c (cat l) (endsL l l.length) i = some true := by
  have hcb : IsBytes ((cat l).take c) := (cat_bytes hb).take c
  have hcl := cat_length hl
  have hlen : ((cat l).take c).length ≤ 4294967296 := by rw [List.length_take]; omega
  -- where the search ends
  have fin : ∀ (k i : Nat), i ≤ l.length → 30 ≤ k → (cat (l.take i)).length ≤ c → (i < l.length → c < endAt l i) →
      (if 0 ≤ (c : Int) then (if (c : Int) ≤ ((cat l).length : Int) then ((crc_All.f ((cat l).take (c : Int).toNat)).bind fun bt289 => ((rickyardlaw05_alive.f).bind fun t293 => (if t293 = true then (if 0 ≤ (i : Int) then (if (i : Int) ≤ (l.length : Int) then ((rickyardref05_Same.f k bt289.1 (l.take (i : Int).toNat)).bind fun t298 => (if t298 = true then (if (i : Int) = 0 then (if bt289.2 = 0 then (some true) else (if (i : Int) > 0 then (if 0 ≤ (wrap64 ((i : Int) - 1)) then (if (wrap64 ((i : Int) - 1)) < ((endsL l l.length).length : Int) then (some (bt289.2 == (rd (endsL l l.length) (wrap64 ((i : Int) - 1))))) else (none)) else (none)) else (some false))) else (if (i : Int) > 0 then (if 0 ≤ (wrap64 ((i : Int) - 1)) then (if (wrap64 ((i : Int) - 1)) < ((endsL l l.length).length : Int) then (some (bt289.2 == (rd (endsL l l.length) (wrap64 ((i : Int) - 1))))) else (none)) else (none)) else (some false))) else (some false))) else (none)) else (none)) else (some false)))) else (none)) else (none) : Option Bool) = some true := by
    intro k i hi hk h1 h2
    have hS := cut_whole hl hi h1 h2 hc
    have hsame : rickyardref05_Same.f k (l.take i) (l.take i) = some true := by
      have hti : (l.take i).length = i := by rw [List.length_take]; omega
      have := refSame_f (l.take i) (by rw [hti]; omega) (k - i - 1)
      rwa [hti, show k - i - 1 + i + 1 = k by omega] at this
    rw [if_pos (by omega), if_pos (by omega), Int.toNat_natCast, Int.toNat_natCast]
    unfold crc_All.f
    rw [if_pos ⟨hcb, hlen⟩, hS]
    simp only [Option.bind_some]
    rw [show rickyardlaw05_alive.f = some true from rfl]
    simp only [Option.bind_some, if_true]
    rw [if_pos (by omega), if_pos (by omega), hsame]
    simp only [Option.bind_some, if_true]
    by_cases h0 : i = 0
    · subst h0
      rw [if_pos (by omega), if_pos (by simp [cat])]
    · rw [if_neg (by omega), if_pos (by omega), w64_dn (by omega) (by omega), if_pos (by omega), if_pos (by rw [endsL_length]; omega), endsL_at l (by omega)]
      unfold endAt
      rw [show i - 1 + 1 = i by omega]
      simp
  induction m with
  | zero =>
    intro k i hi h1
    rw [show k + 30 + 0 + 1 = (k + 30) + 1 from rfl, rickyardlaw05_CrcBack.l1, if_neg (by rw [endsL_length]; omega)]
    exact fin (k + 30) i (by omega) (by omega) h1 (fun h => by omega)
  | succ m ih =>
    intro k i hi h1
    have hlt : i < l.length := by omega
    rw [show k + 30 + (m + 1) + 1 = (k + 30 + m + 1) + 1 from rfl, rickyardlaw05_CrcBack.l1, if_pos (by rw [endsL_length]; omega), if_pos (by omega), endsL_at l hlt, w64_up (by omega)]
    by_cases hle : endAt l i ≤ c
    · rw [if_pos (by omega)]
      exact ih k (i + 1) (by omega) hle
    · rw [if_neg (by omega)]
      have := fin (k + 30 + m + 1) i (by omega) (by omega) h1 (fun _ => by omega)
      simp only [show (0 : Int) ≤ (i : Int) from by omega, if_true] at this
      exact this

theorem back_j (l : List (List Int)) (hn : l.length ≤ 20) (hb : ∀ d ∈ l, IsBytes d) (hl : ∀ d ∈ l, d.length ≤ 300) (a1 : Int) (k : Nat) :
    rickyardlaw05_CrcBack.j1 (k + 30 + l.length + 3) l a1 (cat l) (endsL l l.length) false = some true := by
  rw [show k + 30 + l.length + 3 = (k + 30 + l.length + 2) + 1 from rfl, rickyardlaw05_CrcBack.j1, if_neg (by decide)]
  have hal : rickyardlaw05_CrcBack.j2 (k + 30 + l.length + 1 + 1) l a1 (cat l) (endsL l l.length) true = some true := by
    rw [rickyardlaw05_CrcBack.j2, if_pos rfl]; rfl
  by_cases h1 : a1 < 0
  · rw [if_pos h1]; exact hal
  rw [if_neg h1]
  by_cases h2 : a1 > ((cat l).length : Int)
  · rw [decide_eq_true h2]; exact hal
  rw [decide_eq_false h2, show k + 30 + l.length + 2 = (k + 30 + l.length + 1) + 1 from rfl, rickyardlaw05_CrcBack.j2, if_neg (by decide)]
  obtain ⟨c, rfl⟩ := Int.eq_ofNat_of_zero_le (show 0 ≤ a1 by omega)
  exact back_l1 l hn hb hl c (by omega) l.length k 0 (by omega) (by simp [cat])

theorem back_l0 (l : List (List Int)) (hn : l.length ≤ 20) (hb : ∀ d ∈ l, IsBytes d) (a1 : Int) (m : Nat) : ∀ (k i : Nat), i + m = l.length → (∀ d ∈ l.take i, d.length ≤ 300) →
    rickyardlaw05_CrcBack.l0 (k + 60 + m + 1) l a1 (cat (l.take i)) (endsL l i) i = some true := by
  induction m with
  | zero =>
    intro k i hi hl
    obtain rfl : i = l.length := by omega
    rw [List.take_length] at hl ⊢
    rw [show k + 60 + 0 + 1 = (k + 60) + 1 from rfl, rickyardlaw05_CrcBack.l0, if_neg (by omega)]
    have hcl := cat_length hl
    have hS := allS_cat [] nextS_nil l hl
    rw [List.append_nil] at hS
    unfold crc_All.f
    rw [if_pos ⟨cat_bytes hb, by omega⟩, hS]
    simp only [Option.bind_some]
    have hsame := refSame_f l (by omega) (k + 60 - l.length - 1)
    rw [show k + 60 - l.length - 1 + l.length + 1 = k + 60 by omega] at hsame
    rw [hsame]
    simp only [Option.bind_some, if_true, bne_self_eq_false]
    have := back_j l hn hb hl a1 (k + 27 - l.length)
    rwa [show k + 27 - l.length + 30 + l.length + 3 = k + 60 by omega] at this
  | succ m ih =>
    intro k i hi hl
    have hlt : i < l.length := by omega
    rw [show k + 60 + (m + 1) + 1 = (k + 60 + m + 1) + 1 from rfl, rickyardlaw05_CrcBack.l0, if_pos (by omega), if_pos (by omega), rd_L hlt]
    by_cases h3 : (l[i].length : Int) > 300
    · rw [if_pos h3]; rfl
    · rw [if_neg h3, frame_f _ (by omega)]
      simp only [Option.bind_some, if_true]
      have hl' : ∀ d ∈ l.take (i + 1), d.length ≤ 300 := by
        intro d hd
        rw [List.take_succ_eq_append_getElem hlt] at hd
        rcases List.mem_append.1 hd with hd | hd
        · exact hl d hd
        · simp at hd; rw [hd]; omega
      have hc1 := cat_length hl
      have hti : (l.take i).length = i := by rw [List.length_take]; omega
      rw [hti] at hc1
      have e1 := cat_take_succ l hlt
      rw [← e1, w64_up (by omega), if_pos (by rw [frame_length]; omega), if_pos (by rw [endsL_length]; omega)]
      have e2 : endsL l i ++ [((cat (l.take (i + 1))).length : Int)] = endsL l (i + 1) := (endsL_succ l i).symm
      rw [e2]
      exact ih k (i + 1) (by omega) hl'

theorem CrcBack_f (l : List (List Int)) (hb : ∀ d ∈ l, IsBytes d) (a1 : Int) : rickyardlaw05_CrcBack.f (60 + l.length + 1) l a1 = some true := by
  unfold rickyardlaw05_CrcBack.f
  by_cases h : (l.length : Int) > 20
  · rw [if_pos h]; rfl
  · rw [if_neg h]
    have := back_l0 l (by omega) hb a1 l.length 0 0 (by omega) (by simp)
    rwa [Nat.zero_add] at this

theorem CrcBack_walk (A0 : Option Addr) (c0 : Nat) (l0 : List (List Int)) (a1 : Int) (w : World) (hr0 : Kd.C (Kd.slice 5 (Kd.int .u8)) w A0 l0.length l0) (hc0 : l0.length ≤ c0) (hb0 : ∀ m ∈ l0, ∀ x ∈ m, 0 ≤ x ∧ x < 256) (w1 : (Lit.int .i64 a1).wf = true) :
    Calls Try.prog 8 #[.slice A0 l0.length c0, .int .i64 a1] w fun e w' => e = .returned (.bool true) ∧ Below w.heap.size w w' :=
  rickyardlaw05_CrcBack.calls _ A0 c0 l0 a1 true w hr0 hc0 (CrcBack_f l0 hb0 a1) rfl

end Go.Proofs.Ythdkcfobhofmpaa.Pure
