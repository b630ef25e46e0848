/- What is known as forty-one bytes: what the code writes and reads, in plain Lean. No conditions. -/
import Derived.Test.YtflmjiadahknkaaAggPure1
import Derived.Test.YtflmjiadahknkaaBytes8
import Derived.Test.YtflmjiadahknkaaPaggWrite
import Derived.Test.YtflmjiadahknkaaPaggRead
namespace Go.Proofs.Ytflmjiadahknkaa.Pure
open Go.RowKit Go.Proofs.Ytflmjiadahknkaa.P Go.Proofs.YtflmjiadahknkaaW.PrintWords Go.Proofs.YtflmjiadahknkaaW.PrintLast
set_option linter.unusedVariables false
set_option linter.unusedSimpArgs false

theorem by_drop {l : List Int} (h : IsBy l) (n : Nat) : IsBy (l.drop n) := fun x hx => h x (List.mem_of_mem_drop hx)
theorem by_take {l : List Int} (h : IsBy l) (n : Nat) : IsBy (l.take n) := fun x hx => h x (List.mem_of_mem_take hx)
/-- The number of eight bytes. -/
def v8 (m : List Int) : Nat := accB m 0 8
theorem v8_lt {m : List Int} (h : IsBy m) : v8 m < 18446744073709551616 := accB_lt h 0 8
theorem acc_hi (m : List Int) (h : m.length = 16) : accB m 8 8 = v8 (m.drop 8) := by
  have e : ∀ i, (m.drop 8).getD i 0 = m.getD (8 + i) 0 := fun i => by rw [List.getD_eq_getElem?_getD, List.getD_eq_getElem?_getD, List.getElem?_drop]
  unfold v8
  simp only [accB, e, Nat.zero_add]
theorem acc_lo (m : List Int) (h : m.length = 16) : accB m 0 8 = v8 (m.take 8) := by
  have e : ∀ i, i < 8 → (m.take 8).getD i 0 = m.getD i 0 := fun i hi => by rw [List.getD_eq_getElem?_getD, List.getD_eq_getElem?_getD, List.getElem?_take_of_lt hi]
  unfold v8
  simp only [accB, Nat.zero_add, e 0 (by decide), e 1 (by decide), e 2 (by decide), e 3 (by decide), e 4 (by decide), e 5 (by decide), e 6 (by decide), e 7 (by decide)]
theorem v8_lit (a b c d e f g k : Int) : v8 [a, b, c, d, e, f, g, k] = 256 * (256 * (256 * (256 * (256 * (256 * (256 * (256 * 0 + a.toNat) + b.toNat) + c.toNat) + d.toNat) + e.toNat) + f.toNat) + g.toNat) + k.toNat := by
  unfold v8
  simp only [accB]
  rfl
theorem by_cut {x : Int} (h : 0 ≤ x ∧ x < 256) : ∃ n : Nat, x = n ∧ n < 256 := ⟨x.toNat, by omega, by omega⟩
theorem e8_v8_lit (a b c d e f g k : Int) (h : IsBy [a, b, c, d, e, f, g, k]) : e8 (v8 [a, b, c, d, e, f, g, k]) = [a, b, c, d, e, f, g, k] := by
  obtain ⟨a, rfl, ha⟩ := by_cut (h a (by simp))
  obtain ⟨b, rfl, hb⟩ := by_cut (h b (by simp))
  obtain ⟨c, rfl, hc⟩ := by_cut (h c (by simp))
  obtain ⟨d, rfl, hd⟩ := by_cut (h d (by simp))
  obtain ⟨e, rfl, he⟩ := by_cut (h e (by simp))
  obtain ⟨f, rfl, hf⟩ := by_cut (h f (by simp))
  obtain ⟨g, rfl, hg⟩ := by_cut (h g (by simp))
  obtain ⟨k, rfl, hk⟩ := by_cut (h k (by simp))
  clear h
  rw [v8_lit, e8_lit]
  simp only [Int.toNat_natCast]
  exact cons_eq (by omega) (cons_eq (by omega) (cons_eq (by omega) (cons_eq (by omega) (cons_eq (by omega) (cons_eq (by omega) (cons_eq (by omega) (cons_eq (by omega) rfl)))))))
theorem e8_v8 {m : List Int} (h : IsBy m) (hl : m.length = 8) : e8 (v8 m) = m := by
  rcases m with _ | ⟨a, m⟩; · cases hl
  rcases m with _ | ⟨b, m⟩; · cases hl
  rcases m with _ | ⟨c, m⟩; · cases hl
  rcases m with _ | ⟨d, m⟩; · cases hl
  rcases m with _ | ⟨e, m⟩; · cases hl
  rcases m with _ | ⟨f, m⟩; · cases hl
  rcases m with _ | ⟨g, m⟩; · cases hl
  rcases m with _ | ⟨k, m⟩; · cases hl
  rcases m with _ | ⟨z, m⟩
  · exact e8_v8_lit a b c d e f g k h
  · simp at hl
theorem v8_e8 {n : Nat} (h : n < 18446744073709551616) : v8 (e8 n) = n := by
  rw [e8_lit]
  rw [v8_lit]
  simp only [Int.toNat_natCast]
  omega
theorem e8_by (n : Nat) : IsBy (e8 n) := by
  intro x hx
  unfold e8 at hx
  obtain ⟨j, _, rfl⟩ := List.mem_map.1 hx
  omega

theorem shr_u64 (x : Int) (i : Nat) (h : i ≤ 64) : shr .u64 x i = x / 2 ^ i := by
  show x / 2 ^ min ((i : Int)).toNat 64 = _
  rw [Int.toNat_natCast, Nat.min_eq_left h]
theorem eight_step (k : Nat) (l : List Int) (v : Int) (i : Nat) (hi : i ≤ 56) (hl : l.length < 1000) : agg_eight.l0 (k + 1) l v i = agg_eight.l0 k (l ++ [(v / 2 ^ i) % 256]) v ((i : Int) - 8) := by
  rw [agg_eight.l0, if_pos (by omega), if_pos (by omega), if_pos (by omega), shr_u64 v i (by omega), show wrap64 ((i : Int) - 8) = (i : Int) - 8 by unfold wrap64; omega]
theorem eight_f (k : Nat) (l : List Int) (v : Int) (h0 : 0 ≤ v) (h1 : v < 18446744073709551616) (hl : l.length < 900) : agg_eight.f (k + 9) l v = some (l ++ e8 v.toNat) := by
  unfold agg_eight.f
  rw [show (56 : Int) = ((56 : Nat) : Int) from rfl, eight_step _ _ _ _ (by decide) (by omega), show ((56 : Nat) : Int) - 8 = ((48 : Nat) : Int) from rfl, eight_step _ _ _ _ (by decide) (by simp; omega), show ((48 : Nat) : Int) - 8 = ((40 : Nat) : Int) from rfl,
    eight_step _ _ _ _ (by decide) (by simp; omega), show ((40 : Nat) : Int) - 8 = ((32 : Nat) : Int) from rfl, eight_step _ _ _ _ (by decide) (by simp; omega), show ((32 : Nat) : Int) - 8 = ((24 : Nat) : Int) from rfl,
    eight_step _ _ _ _ (by decide) (by simp; omega), show ((24 : Nat) : Int) - 8 = ((16 : Nat) : Int) from rfl, eight_step _ _ _ _ (by decide) (by simp; omega), show ((16 : Nat) : Int) - 8 = ((8 : Nat) : Int) from rfl,
    eight_step _ _ _ _ (by decide) (by simp; omega), show ((8 : Nat) : Int) - 8 = ((0 : Nat) : Int) from rfl, eight_step _ _ _ _ (by decide) (by simp; omega), agg_eight.l0, if_neg (by decide)]
  obtain ⟨n, rfl⟩ := Int.eq_ofNat_of_zero_le h0
  rw [Int.toNat_natCast, e8_lit]
  simp only [List.append_assoc, List.cons_append, List.nil_append, Option.some.injEq]
  congr 1
  simp only [show (2 : Int) ^ 56 = 72057594037927936 from rfl, show (2 : Int) ^ 48 = 281474976710656 from rfl, show (2 : Int) ^ 40 = 1099511627776 from rfl, show (2 : Int) ^ 32 = 4294967296 from rfl, show (2 : Int) ^ 24 = 16777216 from rfl, show (2 : Int) ^ 16 = 65536 from rfl, show (2 : Int) ^ 8 = 256 from rfl, show (2 : Int) ^ 0 = 1 from rfl]
  exact cons_eq (by omega) (cons_eq (by omega) (cons_eq (by omega) (cons_eq (by omega) (cons_eq (by omega) (cons_eq (by omega) (cons_eq (by omega) (cons_eq (by omega) rfl)))))))

theorem number_l0 {l : List Int} (hb : IsBy l) (hl : l.length ≤ 8) (d : Nat) : ∀ (k i : Nat), i + d = l.length → agg_number.l0 (k + d + 1) (accB l 0 i : Nat) l l.length i = some ((accB l 0 l.length : Nat) : Int) := by
  induction d with
  | zero =>
    intro k i hi
    obtain rfl : i = l.length := by omega
    rw [agg_number.l0, if_neg (by omega)]
  | succ d ih =>
    intro k i hi
    have hlt := accB_lt hb 0 i
    have hp : 256 ^ i ≤ 256 ^ 7 := Nat.pow_le_pow_right (by decide) (by omega)
    have hp7 : (256 : Nat) ^ 7 = 72057594037927936 := rfl
    have hat := hb.at_ i
    obtain ⟨c, hc⟩ : ∃ c : Nat, l.getD i 0 = (c : Int) := ⟨(l.getD i 0).toNat, by omega⟩
    have hr : rd l (i : Int) = (c : Int) := by rw [← hc]; show l.getD ((i : Int)).toNat 0 = _; rw [Int.toNat_natCast]
    have e1 : IntKind.u64.wrap ((accB l 0 i : Nat) * 256 : Int) = ((256 * accB l 0 i : Nat) : Int) := by rw [IntKind.wrap_u64]; omega
    have e2 : IntKind.u64.wrap (c : Int) = c := by rw [IntKind.wrap_u64]; omega
    have e3 : accB l 0 (i + 1) = 256 * accB l 0 i + c := by rw [accB, Nat.zero_add, hc, Int.toNat_natCast]
    rw [show k + (d + 1) + 1 = (k + d + 1) + 1 from rfl, agg_number.l0, if_pos (by omega), if_pos (by omega), if_pos (by omega), hr, e1, e2, or_u64 _ c (by omega) (by omega), ← e3, show wrap64 ((i : Int) + 1) = ((i + 1 : Nat) : Int) by unfold wrap64; omega]
    exact ih k (i + 1) (by omega)
theorem number_f {l : List Int} (hb : IsBy l) (hl : l.length = 8) (k : Nat) : agg_number.f (k + 9) l = some ((v8 l : Nat) : Int) := by
  unfold agg_number.f
  have := number_l0 hb (by omega) 8 k 0 (by omega)
  rw [accB_zero, hl] at this
  rw [hl]
  exact this

/-- The forty-one bytes. -/
def aggL (n : Int) (o : Bool) (x y a b : Int) : List Int := [if o = true then 1 else 0] ++ e8 n.toNat ++ (e8 (IntKind.u64.wrap x).toNat ++ e8 y.toNat) ++ e8 (IntKind.u64.wrap a).toNat ++ e8 (IntKind.u64.wrap b).toNat
theorem aggL_len (n : Int) (o : Bool) (x y a b : Int) : (aggL n o x y a b).length = 41 := by simp [aggL, e8_len]
theorem u64_rng (x : Int) : 0 ≤ IntKind.u64.wrap x ∧ IntKind.u64.wrap x < 18446744073709551616 := by rw [IntKind.wrap_u64]; omega
theorem aggWrite_j0 (k : Nat) (f n x y a b : Int) (o : Bool) (hn : 0 ≤ n ∧ n < 18446744073709551616) (hy : 0 ≤ y ∧ y < 18446744073709551616) :
    agg_Write.j0 (k + 10) [f] n o x y a b = some ([f] ++ e8 n.toNat ++ (e8 (IntKind.u64.wrap x).toNat ++ e8 y.toNat) ++ e8 (IntKind.u64.wrap a).toNat ++ e8 (IntKind.u64.wrap b).toNat, 0) := by
  have ha := u64_rng a
  have hb := u64_rng b
  rw [agg_Write.j0, eight_f k [f] n hn.1 hn.2 (by simp)]
  simp only [Option.bind_some]
  unfold wide_Write.f
  simp only [Option.bind_some]
  rw [wl_e8 x y hy.1 hy.2, if_pos (by simp [e8_len]), eight_f k _ _ ha.1 ha.2 (by simp [e8_len])]
  simp only [Option.bind_some]
  rw [eight_f k _ _ hb.1 hb.2 (by simp [e8_len])]
  rfl
theorem aggWrite_f (k : Nat) (n x y a b : Int) (o : Bool) (hn : 0 ≤ n ∧ n < 18446744073709551616) (hy : 0 ≤ y ∧ y < 18446744073709551616) :
    (RightP n o x y a b → agg_Write.f (k + 10) n o x y a b = some (aggL n o x y a b, 0)) ∧ (¬ RightP n o x y a b → agg_Write.f (k + 10) n o x y a b = some ([], 3)) := by
  obtain ⟨r, hr, hp⟩ := right_f n o x y a b
  unfold agg_Write.f
  rw [hr]
  simp only [Option.bind_some]
  constructor
  · intro h
    rw [hp.2 h, if_pos rfl]
    cases o with
    | true => rw [if_pos rfl, if_pos (by simp)]; exact aggWrite_j0 k 1 n x y a b true hn hy
    | false => rw [if_neg (by decide)]; exact aggWrite_j0 k 0 n x y a b false hn hy
  · intro h
    rw [if_neg (fun e => h (hp.1 e))]

/-- The pieces of forty-one bytes. -/
theorem cut_app (l : List Int) (a b : Nat) (h : a ≤ b) : l.take a ++ (l.take b).drop a = l.take b := by
  have e : l.take a = (l.take b).take a := by rw [List.take_take, Nat.min_eq_left h]
  rw [e, List.take_append_drop]
structure Pc (l : List Int) (n : Nat) (x : Int) (y : Nat) (a b : Int) : Prop where
  n_ : v8 ((l.take 9).drop 1) = n
  x_ : wrap64 (accB ((l.take 25).drop 9) 0 8 : Nat) = x
  y_ : accB ((l.take 25).drop 9) 8 8 = y
  a_ : wrap64 (v8 ((l.take 33).drop 25) : Nat) = a
  b_ : wrap64 (v8 (l.drop 33) : Nat) = b
theorem u64_wrap64 {n : Nat} (h : n < 18446744073709551616) : (IntKind.u64.wrap (wrap64 (n : Int))).toNat = n := by rw [IntKind.wrap_u64]; unfold wrap64; omega
theorem aggL_back {l : List Int} (hb : IsBy l) (hl : l.length = 41) {n y : Nat} {x a b : Int} (h : Pc l n x y a b) (o : Bool) (ho : (if o = true then (1 : Int) else 0) = rd l 0) : aggL n o x y a b = l := by
  have p1 := e8_v8 (by_drop (by_take hb 9) 1) (by simp [hl])
  have q : ((l.take 25).drop 9).length = 16 := by simp [hl]
  have qb := by_drop (by_take hb 25) 9
  have p2 := e8_v8 (by_take qb 8) (by simp [hl])
  have p3 := e8_v8 (by_drop qb 8) (by simp [hl])
  have p4 := e8_v8 (by_drop (by_take hb 33) 25) (by simp [hl])
  have p5 := e8_v8 (by_drop hb 33) (by simp [hl])
  unfold aggL
  rw [ho, ← h.n_, ← h.x_, ← h.y_, ← h.a_, ← h.b_, Int.toNat_natCast, Int.toNat_natCast, acc_lo _ q, acc_hi _ q, u64_wrap64 (v8_lt (by_take qb 8)), u64_wrap64 (v8_lt (by_drop (by_take hb 33) 25)), u64_wrap64 (v8_lt (by_drop hb 33)), p1, p2, p3, p4, p5, List.take_append_drop]
  have e0 : [rd l 0] = l.take 1 := by
    cases l with
    | nil => simp at hl
    | cons c l => rfl
  rw [e0, cut_app l 1 9 (by decide), cut_app l 9 25 (by decide), cut_app l 25 33 (by decide), List.take_append_drop]

def errT : AggT × Int := ((0, false, 0, 0, 0, 0), 3)
/-- What Read tells of forty-one bytes. -/
theorem aggRead_f {l : List Int} (hb : IsBy l) (hl : l.length = 41) (k : Nat) : ∃ (n y : Nat) (x a b : Int), Pc l n x y a b ∧ n < 18446744073709551616 ∧ y < 18446744073709551616 ∧ (-9223372036854775808 ≤ x ∧ x < 9223372036854775808) ∧ (-9223372036854775808 ≤ a ∧ a < 9223372036854775808) ∧ (-9223372036854775808 ≤ b ∧ b < 9223372036854775808) ∧
    agg_Read.f (k + 9) l = if rd l 0 > 1 then some (0, false, 0, 0, 0, 0, 3) else (agg_Right.f n (rd l 0 == 1) x y a b).bind fun t => if t = true then some ((n : Int), (rd l 0 == 1), x, (y : Int), a, b, 0) else some (0, false, 0, 0, 0, 0, 3) := by
  have q : ((l.take 25).drop 9).length = 16 := by simp [hl]
  have qb := by_drop (by_take hb 25) 9
  refine ⟨_, _, _, _, _, ⟨rfl, rfl, rfl, rfl, rfl⟩, v8_lt (by_drop (by_take hb 9) 1), by rw [acc_hi _ q]; exact v8_lt (by_drop qb 8), by unfold wrap64; omega, by unfold wrap64; omega, by unfold wrap64; omega, ?_⟩
  unfold agg_Read.f
  rw [if_neg (by omega), if_neg (by omega), if_pos (by decide), if_pos (by omega), number_f (by_drop (by_take hb 9) 1) (by simp [hl]) k]
  simp only [Option.bind_some]
  rw [if_pos (by omega), if_pos (by decide), if_pos (by omega), number_f (by_drop (by_take hb 33) 25) (by simp [hl]) k]
  simp only [Option.bind_some]
  rw [number_f (by_drop hb 33) (by simp [hl]) k]
  simp only [Option.bind_some]
  rw [if_pos (by decide), if_pos (by omega)]
  unfold wide_Read.f
  rw [q, if_neg (by decide), if_neg (by decide), if_pos qb]
  rfl

end Go.Proofs.Ytflmjiadahknkaa.Pure
