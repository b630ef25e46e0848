/- rickyardlaw02.AggBytes: bytes are those of the reference (four texts in one: a claim has at most 60 files). No conditions. -/
import Derived.Test.YtflmjiadahknkaaAggPure1
import Derived.Test.YtflmjiadahknkaaBytes8
import Derived.Test.YtflmjiadahknkaaPaggWrite
import Derived.Test.YtflmjiadahknkaaPaggRead
import Derived.Test.YtflmjiadahknkaaPrickyardref02Read
import Derived.Test.YtflmjiadahknkaaPrickyardref02Write
import Derived.Lib.Bytes
import Derived.Test.YtflmjiadahknkaaPrickyardlaw02AggBytes
namespace Go.Proofs.Ytflmjiadahknkaa.Pure
open Go.RowKit Go.Proofs.Ytflmjiadahknkaa.P Go.Proofs.YtflmjiadahknkaaW.PrintWords Go.Proofs.YtflmjiadahknkaaW.PrintLast
set_option linter.unusedVariables false
set_option linter.unusedSimpArgs false

theorem by_drop {l : List Int} (h : IsBy l) (n : Nat) : IsBy (l.drop n) := fun x hx => h x (List.mem_of_mem_drop hx)
theorem by_take {l : List Int} (h : IsBy l) (n : Nat) : IsBy (l.take n) := fun x hx => h x (List.mem_of_mem_take hx)
/-- The number of eight bytes. -/
def v8 (m : List Int) : Nat := accB m 0 8
theorem v8_lt {m : List Int} (h : IsBy m) : v8 m < 18446744073709551616 := accB_lt h 0 8
theorem acc_hi (m : List Int) (h : m.length = 16) : accB m 8 8 = v8 (m.drop 8) := by
  have e : ∀ i, (m.drop 8).getD i 0 = m.getD (8 + i) 0 := fun i => by rw [List.getD_eq_getElem?_getD, List.getD_eq_getElem?_getD, List.getElem?_drop]
  unfold v8
  simp only [accB, e, Nat.zero_add]
theorem acc_lo (m : List Int) (h : m.length = 16) : accB m 0 8 = v8 (m.take 8) := by
  have e : ∀ i, i < 8 → (m.take 8).getD i 0 = m.getD i 0 := fun i hi => by rw [List.getD_eq_getElem?_getD, List.getD_eq_getElem?_getD, List.getElem?_take_of_lt hi]
  unfold v8
  simp only [accB, Nat.zero_add, e 0 (by decide), e 1 (by decide), e 2 (by decide), e 3 (by decide), e 4 (by decide), e 5 (by decide), e 6 (by decide), e 7 (by decide)]
theorem v8_lit (a b c d e f g k : Int) : v8 [a, b, c, d, e, f, g, k] = 256 * (256 * (256 * (256 * (256 * (256 * (256 * (256 * 0 + a.toNat) + b.toNat) + c.toNat) + d.toNat) + e.toNat) + f.toNat) + g.toNat) + k.toNat := by
  unfold v8
  simp only [accB]
  rfl
theorem by_cut {x : Int} (h : 0 ≤ x ∧ x < 256) : ∃ n : Nat, x = n ∧ n < 256 := ⟨x.toNat, by omega, by omega⟩
theorem e8_v8_lit (a b c d e f g k : Int) (h : IsBy [a, b, c, d, e, f, g, k]) : e8 (v8 [a, b, c, d, e, f, g, k]) = [a, b, c, d, e, f, g, k] := by
  obtain ⟨a, rfl, ha⟩ := by_cut (h a (by simp))
  obtain ⟨b, rfl, hb⟩ := by_cut (h b (by simp))
  obtain ⟨c, rfl, hc⟩ := by_cut (h c (by simp))
  obtain ⟨d, rfl, hd⟩ := by_cut (h d (by simp))
  obtain ⟨e, rfl, he⟩ := by_cut (h e (by simp))
  obtain ⟨f, rfl, hf⟩ := by_cut (h f (by simp))
  obtain ⟨g, rfl, hg⟩ := by_cut (h g (by simp))
  obtain ⟨k, rfl, hk⟩ := by_cut (h k (by simp))
  clear h
  rw [v8_lit, e8_lit]
  simp only [Int.toNat_natCast]
  exact cons_eq (by omega) (cons_eq (by omega) (cons_eq (by omega) (cons_eq (by omega) (cons_eq (by omega) (cons_eq (by omega) (cons_eq (by omega) (cons_eq (by omega) rfl)))))))
theorem e8_v8 {m : List Int} (h : IsBy m) (hl : m.length = 8) : e8 (v8 m) = m := by
  rcases m with _ | ⟨a, m⟩; · cases hl
  rcases m with _ | ⟨b, m⟩; · cases hl
  rcases m with _ | ⟨c, m⟩; · cases hl
  rcases m with _ | ⟨d, m⟩; · cases hl
  rcases m with _ | ⟨e, m⟩; · cases hl
  rcases m with _ | ⟨f, m⟩; · cases hl
  rcases m with _ | ⟨g, m⟩; · cases hl
  rcases m with _ | ⟨k, m⟩; · cases hl
  rcases m with _ | ⟨z, m⟩
  · exact e8_v8_lit a b c d e f g k h
  · simp at hl
theorem v8_e8 {n : Nat} (h : n < 18446744073709551616) : v8 (e8 n) = n := by
  rw [e8_lit]
  rw [v8_lit]
  simp only [Int.toNat_natCast]
  omega
theorem e8_by (n : Nat) : IsBy (e8 n) := by
  intro x hx
  unfold e8 at hx
  obtain ⟨j, _, rfl⟩ := List.mem_map.1 hx
  omega

theorem shr_u64 (x : Int) (i : Nat) (h : i ≤ 64) : shr .u64 x i = x / 2 ^ i := by
  show x / 2 ^ min ((i : Int)).toNat 64 = _
  rw [Int.toNat_natCast, Nat.min_eq_left h]
theorem eight_step (k : Nat) (l : List Int) (v : Int) (i : Nat) (hi : i ≤ 56) (hl : l.length < 1000) : agg_eight.l0 (k + 1) l v i = agg_eight.l0 k (l ++ [(v / 2 ^ i) % 256]) v ((i : Int) - 8) := by
  rw [agg_eight.l0, if_pos (by omega), if_pos (by omega), if_pos (by omega), shr_u64 v i (by omega), show wrap64 ((i : Int) - 8) = (i : Int) - 8 by unfold wrap64; omega]
theorem eight_f (k : Nat) (l : List Int) (v : Int) (h0 : 0 ≤ v) (h1 : v < 18446744073709551616) (hl : l.length < 900) : agg_eight.f (k + 9) l v = some (l ++ e8 v.toNat) := by
  unfold agg_eight.f
  rw [show (56 : Int) = ((56 : Nat) : Int) from rfl, eight_step _ _ _ _ (by decide) (by omega), show ((56 : Nat) : Int) - 8 = ((48 : Nat) : Int) from rfl, eight_step _ _ _ _ (by decide) (by simp; omega), show ((48 : Nat) : Int) - 8 = ((40 : Nat) : Int) from rfl,
    eight_step _ _ _ _ (by decide) (by simp; omega), show ((40 : Nat) : Int) - 8 = ((32 : Nat) : Int) from rfl, eight_step _ _ _ _ (by decide) (by simp; omega), show ((32 : Nat) : Int) - 8 = ((24 : Nat) : Int) from rfl,
    eight_step _ _ _ _ (by decide) (by simp; omega), show ((24 : Nat) : Int) - 8 = ((16 : Nat) : Int) from rfl, eight_step _ _ _ _ (by decide) (by simp; omega), show ((16 : Nat) : Int) - 8 = ((8 : Nat) : Int) from rfl,
    eight_step _ _ _ _ (by decide) (by simp; omega), show ((8 : Nat) : Int) - 8 = ((0 : Nat) : Int) from rfl, eight_step _ _ _ _ (by decide) (by simp; omega), agg_eight.l0, if_neg (by decide)]
  obtain ⟨n, rfl⟩ := Int.eq_ofNat_of_zero_le h0
  rw [Int.toNat_natCast, e8_lit]
  simp only [List.append_assoc, List.cons_append, List.nil_append, Option.some.injEq]
  congr 1
  simp only [show (2 : Int) ^ 56 = 72057594037927936 from rfl, show (2 : Int) ^ 48 = 281474976710656 from rfl, show (2 : Int) ^ 40 = 1099511627776 from rfl, show (2 : Int) ^ 32 = 4294967296 from rfl, show (2 : Int) ^ 24 = 16777216 from rfl, show (2 : Int) ^ 16 = 65536 from rfl, show (2 : Int) ^ 8 = 256 from rfl, show (2 : Int) ^ 0 = 1 from rfl]
  exact cons_eq (by omega) (cons_eq (by omega) (cons_eq (by omega) (cons_eq (by omega) (cons_eq (by omega) (cons_eq (by omega) (cons_eq (by omega) (cons_eq (by omega) rfl)))))))

theorem number_l0 {l : List Int} (hb : IsBy l) (hl : l.length ≤ 8) (d : Nat) : ∀ (k i : Nat), i + d = l.length → agg_number.l0 (k + d + 1) (accB l 0 i : Nat) l l.length i = some ((accB l 0 l.length : Nat) : Int) := by
  induction d with
  | zero =>
    intro k i hi
    obtain rfl : i = l.length := by omega
    rw [agg_number.l0, if_neg (by omega)]
  | succ d ih =>
    intro k i hi
    have hlt := accB_lt hb 0 i
    have hp : 256 ^ i ≤ 256 ^ 7 := Nat.pow_le_pow_right (by decide) (by omega)
    have hp7 : (256 : Nat) ^ 7 = 72057594037927936 := rfl
    have hat := hb.at_ i
    obtain ⟨c, hc⟩ : ∃ c : Nat, l.getD i 0 = (c : Int) := ⟨(l.getD i 0).toNat, by omega⟩
    have hr : rd l (i : Int) = (c : Int) := by rw [← hc]; show l.getD ((i : Int)).toNat 0 = _; rw [Int.toNat_natCast]
    have e1 : IntKind.u64.wrap ((accB l 0 i : Nat) * 256 : Int) = ((256 * accB l 0 i : Nat) : Int) := by rw [IntKind.wrap_u64]; omega
    have e2 : IntKind.u64.wrap (c : Int) = c := by rw [IntKind.wrap_u64]; omega
    have e3 : accB l 0 (i + 1) = 256 * accB l 0 i + c := by rw [accB, Nat.zero_add, hc, Int.toNat_natCast]
    rw [show k + (d + 1) + 1 = (k + d + 1) + 1 from rfl, agg_number.l0, if_pos (by omega), if_pos (by omega), if_pos (by omega), hr, e1, e2, or_u64 _ c (by omega) (by omega), ← e3, show wrap64 ((i : Int) + 1) = ((i + 1 : Nat) : Int) by unfold wrap64; omega]
    exact ih k (i + 1) (by omega)
theorem number_f {l : List Int} (hb : IsBy l) (hl : l.length = 8) (k : Nat) : agg_number.f (k + 9) l = some ((v8 l : Nat) : Int) := by
  unfold agg_number.f
  have := number_l0 hb (by omega) 8 k 0 (by omega)
  rw [accB_zero, hl] at this
  rw [hl]
  exact this

/-- The forty-one bytes. -/
def aggL (n : Int) (o : Bool) (x y a b : Int) : List Int := [if o = true then 1 else 0] ++ e8 n.toNat ++ (e8 (IntKind.u64.wrap x).toNat ++ e8 y.toNat) ++ e8 (IntKind.u64.wrap a).toNat ++ e8 (IntKind.u64.wrap b).toNat
theorem aggL_len (n : Int) (o : Bool) (x y a b : Int) : (aggL n o x y a b).length = 41 := by simp [aggL, e8_len]
theorem u64_rng (x : Int) : 0 ≤ IntKind.u64.wrap x ∧ IntKind.u64.wrap x < 18446744073709551616 := by rw [IntKind.wrap_u64]; omega
theorem aggWrite_j0 (k : Nat) (f n x y a b : Int) (o : Bool) (hn : 0 ≤ n ∧ n < 18446744073709551616) (hy : 0 ≤ y ∧ y < 18446744073709551616) :
    agg_Write.j0 (k + 10) [f] n o x y a b = some ([f] ++ e8 n.toNat ++ (e8 (IntKind.u64.wrap x).toNat ++ e8 y.toNat) ++ e8 (IntKind.u64.wrap a).toNat ++ e8 (IntKind.u64.wrap b).toNat, 0) := by
  have ha := u64_rng a
  have hb := u64_rng b
  rw [agg_Write.j0, eight_f k [f] n hn.1 hn.2 (by simp)]
  simp only [Option.bind_some]
  unfold wide_Write.f
  simp only [Option.bind_some]
  rw [wl_e8 x y hy.1 hy.2, if_pos (by simp [e8_len]), eight_f k _ _ ha.1 ha.2 (by simp [e8_len])]
  simp only [Option.bind_some]
  rw [eight_f k _ _ hb.1 hb.2 (by simp [e8_len])]
  rfl
theorem aggWrite_f (k : Nat) (n x y a b : Int) (o : Bool) (hn : 0 ≤ n ∧ n < 18446744073709551616) (hy : 0 ≤ y ∧ y < 18446744073709551616) :
    (RightP n o x y a b → agg_Write.f (k + 10) n o x y a b = some (aggL n o x y a b, 0)) ∧ (¬ RightP n o x y a b → agg_Write.f (k + 10) n o x y a b = some ([], 3)) := by
  obtain ⟨r, hr, hp⟩ := right_f n o x y a b
  unfold agg_Write.f
  rw [hr]
  simp only [Option.bind_some]
  constructor
  · intro h
    rw [hp.2 h, if_pos rfl]
    cases o with
    | true => rw [if_pos rfl, if_pos (by simp)]; exact aggWrite_j0 k 1 n x y a b true hn hy
    | false => rw [if_neg (by decide)]; exact aggWrite_j0 k 0 n x y a b false hn hy
  · intro h
    rw [if_neg (fun e => h (hp.1 e))]

/-- The pieces of forty-one bytes. -/
theorem cut_app (l : List Int) (a b : Nat) (h : a ≤ b) : l.take a ++ (l.take b).drop a = l.take b := by
  have e : l.take a = (l.take b).take a := by rw [List.take_take, Nat.min_eq_left h]
  rw [e, List.take_append_drop]
structure Pc (l : List Int) (n : Nat) (x : Int) (y : Nat) (a b : Int) : Prop where
  n_ : v8 ((l.take 9).drop 1) = n
  x_ : wrap64 (accB ((l.take 25).drop 9) 0 8 : Nat) = x
  y_ : accB ((l.take 25).drop 9) 8 8 = y
  a_ : wrap64 (v8 ((l.take 33).drop 25) : Nat) = a
  b_ : wrap64 (v8 (l.drop 33) : Nat) = b
theorem u64_wrap64 {n : Nat} (h : n < 18446744073709551616) : (IntKind.u64.wrap (wrap64 (n : Int))).toNat = n := by rw [IntKind.wrap_u64]; unfold wrap64; omega
theorem aggL_back {l : List Int} (hb : IsBy l) (hl : l.length = 41) {n y : Nat} {x a b : Int} (h : Pc l n x y a b) (o : Bool) (ho : (if o = true then (1 : Int) else 0) = rd l 0) : aggL n o x y a b = l := by
  have p1 := e8_v8 (by_drop (by_take hb 9) 1) (by simp [hl])
  have q : ((l.take 25).drop 9).length = 16 := by simp [hl]
  have qb := by_drop (by_take hb 25) 9
  have p2 := e8_v8 (by_take qb 8) (by simp [hl])
  have p3 := e8_v8 (by_drop qb 8) (by simp [hl])
  have p4 := e8_v8 (by_drop (by_take hb 33) 25) (by simp [hl])
  have p5 := e8_v8 (by_drop hb 33) (by simp [hl])
  unfold aggL
  rw [ho, ← h.n_, ← h.x_, ← h.y_, ← h.a_, ← h.b_, Int.toNat_natCast, Int.toNat_natCast, acc_lo _ q, acc_hi _ q, u64_wrap64 (v8_lt (by_take qb 8)), u64_wrap64 (v8_lt (by_drop (by_take hb 33) 25)), u64_wrap64 (v8_lt (by_drop hb 33)), p1, p2, p3, p4, p5, List.take_append_drop]
  have e0 : [rd l 0] = l.take 1 := by
    cases l with
    | nil => simp at hl
    | cons c l => rfl
  rw [e0, cut_app l 1 9 (by decide), cut_app l 9 25 (by decide), cut_app l 25 33 (by decide), List.take_append_drop]

def errT : AggT × Int := ((0, false, 0, 0, 0, 0), 3)
/-- What Read tells of forty-one bytes. -/
theorem aggRead_f {l : List Int} (hb : IsBy l) (hl : l.length = 41) (k : Nat) : ∃ (n y : Nat) (x a b : Int), Pc l n x y a b ∧ n < 18446744073709551616 ∧ y < 18446744073709551616 ∧ (-9223372036854775808 ≤ x ∧ x < 9223372036854775808) ∧ (-9223372036854775808 ≤ a ∧ a < 9223372036854775808) ∧ (-9223372036854775808 ≤ b ∧ b < 9223372036854775808) ∧
    agg_Read.f (k + 9) l = if rd l 0 > 1 then some (0, false, 0, 0, 0, 0, 3) else (agg_Right.f n (rd l 0 == 1) x y a b).bind fun t => if t = true then some ((n : Int), (rd l 0 == 1), x, (y : Int), a, b, 0) else some (0, false, 0, 0, 0, 0, 3) := by
  have q : ((l.take 25).drop 9).length = 16 := by simp [hl]
  have qb := by_drop (by_take hb 25) 9
  refine ⟨_, _, _, _, _, ⟨rfl, rfl, rfl, rfl, rfl⟩, v8_lt (by_drop (by_take hb 9) 1), by rw [acc_hi _ q]; exact v8_lt (by_drop qb 8), by unfold wrap64; omega, by unfold wrap64; omega, by unfold wrap64; omega, ?_⟩
  unfold agg_Read.f
  rw [if_neg (by omega), if_neg (by omega), if_pos (by decide), if_pos (by omega), number_f (by_drop (by_take hb 9) 1) (by simp [hl]) k]
  simp only [Option.bind_some]
  rw [if_pos (by omega), if_pos (by decide), if_pos (by omega), number_f (by_drop (by_take hb 33) 25) (by simp [hl]) k]
  simp only [Option.bind_some]
  rw [number_f (by_drop hb 33) (by simp [hl]) k]
  simp only [Option.bind_some]
  rw [if_pos (by decide), if_pos (by omega)]
  unfold wide_Read.f
  rw [q, if_neg (by decide), if_neg (by decide), if_pos qb]
  rfl


theorem cuts {p q r s t u : List Int} (hp : p.length = 1) (hq : q.length = 8) (hr : r.length = 8) (hs : s.length = 8) (ht : t.length = 8) (hu : u.length = 8) :
    ((p ++ q ++ (r ++ s) ++ t ++ u).take 9).drop 1 = q ∧ ((p ++ q ++ (r ++ s) ++ t ++ u).take 25).drop 9 = r ++ s ∧ ((p ++ q ++ (r ++ s) ++ t ++ u).take 33).drop 25 = t ∧ (p ++ q ++ (r ++ s) ++ t ++ u).drop 33 = u := by
  refine ⟨?_, ?_, ?_, ?_⟩
  · rw [show p ++ q ++ (r ++ s) ++ t ++ u = (p ++ q) ++ (r ++ s ++ t ++ u) by simp only [List.append_assoc], List.take_left' (by simp [hp, hq]), List.drop_left' hp]
  · rw [show p ++ q ++ (r ++ s) ++ t ++ u = (p ++ q ++ (r ++ s)) ++ (t ++ u) by simp only [List.append_assoc], List.take_left' (by simp [hp, hq, hr, hs]), List.drop_left' (by simp [hp, hq])]
  · rw [List.take_left' (by simp [hp, hq, hr, hs, ht]), List.drop_left' (by simp [hp, hq, hr, hs])]
  · rw [List.drop_left' (by simp [hp, hq, hr, hs, ht])]
theorem wrap64_u64 {x : Int} (h : -9223372036854775808 ≤ x ∧ x < 9223372036854775808) : wrap64 (((IntKind.u64.wrap x).toNat : Nat) : Int) = x := by
  rw [IntKind.wrap_u64]
  unfold wrap64
  omega
theorem Pc_L {n : Int} {o : Bool} {x y a b : Int} (hn : 0 ≤ n ∧ n < 18446744073709551616) (hx : -9223372036854775808 ≤ x ∧ x < 9223372036854775808) (hy : 0 ≤ y ∧ y < 18446744073709551616) (ha : -9223372036854775808 ≤ a ∧ a < 9223372036854775808) (hb : -9223372036854775808 ≤ b ∧ b < 9223372036854775808) :
    Pc (aggL n o x y a b) n.toNat x y.toNat a b := by
  obtain ⟨c1, c2, c3, c4⟩ := cuts (p := [if o = true then (1 : Int) else 0]) rfl (e8_len n.toNat) (e8_len (IntKind.u64.wrap x).toNat) (e8_len y.toNat) (e8_len (IntKind.u64.wrap a).toNat) (e8_len (IntKind.u64.wrap b).toNat)
  have q : (e8 (IntKind.u64.wrap x).toNat ++ e8 y.toNat).length = 16 := by rw [List.length_append, e8_len, e8_len]
  have lt : ∀ z : Int, (IntKind.u64.wrap z).toNat < 18446744073709551616 := fun z => by have := u64_rng z; omega
  unfold aggL
  refine ⟨?_, ?_, ?_, ?_, ?_⟩
  · rw [c1, v8_e8 (by omega)]
  · rw [c2, acc_lo _ q, List.take_left' (e8_len _), v8_e8 (lt x), wrap64_u64 hx]
  · rw [c2, acc_hi _ q, List.drop_left' (e8_len _), v8_e8 (by omega)]
  · rw [c3, v8_e8 (lt a), wrap64_u64 ha]
  · rw [c4, v8_e8 (lt b), wrap64_u64 hb]
theorem by_app {l m : List Int} (h : IsBy l) (k : IsBy m) : IsBy (l ++ m) := fun x hx => (List.mem_append.1 hx).elim (h x) (k x)
theorem aggL_by (n : Int) (o : Bool) (x y a b : Int) : IsBy (aggL n o x y a b) := by
  unfold aggL
  refine by_app (by_app (by_app (by_app ?_ (e8_by _)) (by_app (e8_by _) (e8_by _))) (e8_by _)) (e8_by _)
  intro z hz
  rw [List.mem_singleton] at hz
  subst hz
  cases o <;> simp
theorem aggL_rd (n : Int) (o : Bool) (x y a b : Int) : rd (aggL n o x y a b) 0 = if o = true then 1 else 0 := rfl
theorem read_aggL {n : Int} {o : Bool} {x y a b : Int} (hn : 0 ≤ n ∧ n < 18446744073709551616) (hx : -9223372036854775808 ≤ x ∧ x < 9223372036854775808) (hy : 0 ≤ y ∧ y < 18446744073709551616) (ha : -9223372036854775808 ≤ a ∧ a < 9223372036854775808) (hb : -9223372036854775808 ≤ b ∧ b < 9223372036854775808)
    (h : RightP n o x y a b) (k : Nat) : agg_Read.f (k + 9) (aggL n o x y a b) = some (n, o, x, y, a, b, 0) := by
  obtain ⟨n', y', x', a', b', P', _, _, _, _, _, e⟩ := aggRead_f (aggL_by n o x y a b) (aggL_len n o x y a b) k
  have P := Pc_L (o := o) hn hx hy ha hb
  have e1 : (n' : Int) = n := by have := P'.n_.symm.trans P.n_; omega
  have e2 : (y' : Int) = y := by have := P'.y_.symm.trans P.y_; omega
  have e3 : x' = x := P'.x_.symm.trans P.x_
  have e4 : a' = a := P'.a_.symm.trans P.a_
  have e5 : b' = b := P'.b_.symm.trans P.b_
  rw [e, e1, e2, e3, e4, e5, aggL_rd]
  obtain ⟨r, hr, hp⟩ := right_f n o x y a b
  have ho : ((if o = true then (1 : Int) else 0) == 1) = o := by cases o <;> rfl
  rw [ho, hr, hp.2 h, if_neg (by cases o <;> decide)]
  rfl

theorem read_any {l : List Int} (hb : IsBy l) (k : Nat) : ∃ (n : Int) (o : Bool) (x y a b e : Int), agg_Read.f (k + 9) l = some (n, o, x, y, a, b, e) ∧ (0 ≤ n ∧ n < 18446744073709551616) ∧ (0 ≤ y ∧ y < 18446744073709551616) ∧ (e = 0 → RightP n o x y a b ∧ aggL n o x y a b = l) := by
  by_cases h1 : l.length = 41
  · obtain ⟨n, y, x, a, b, P, hn, hy, _, _, _, e⟩ := aggRead_f hb h1 k
    by_cases h2 : rd l 0 > 1
    · exact ⟨_, _, _, _, _, _, _, by rw [e, if_pos h2], by omega, by omega, fun h => by cases h⟩
    · obtain ⟨r, hr, hp⟩ := right_f n (rd l 0 == 1) x y a b
      rw [if_neg h2, hr] at e
      cases r with
      | false => exact ⟨_, _, _, _, _, _, _, by rw [e]; rfl, by omega, by omega, fun h => by cases h⟩
      | true =>
        refine ⟨_, _, _, _, _, _, _, by rw [e]; rfl, by omega, by omega, fun _ => ⟨hp.1 rfl, aggL_back hb h1 P _ ?_⟩⟩
        have h0 : 0 ≤ rd l 0 := (hb.at_ 0).1
        by_cases h3 : rd l 0 = 1
        · rw [h3]; rfl
        · rw [if_neg (by simpa using h3)]; omega
  · unfold agg_Read.f
    by_cases h2 : (l.length : Int) < 41
    · exact ⟨_, _, _, _, _, _, _, by rw [if_pos h2], by omega, by omega, fun h => by cases h⟩
    · exact ⟨_, _, _, _, _, _, _, by rw [if_neg h2, if_pos (by omega)], by omega, by omega, fun h => by cases h⟩


theorem refRight_f (n : Int) (o : Bool) (x y a b : Int) : ∃ r, rickyardref02_Right.f n o x y a b = some r ∧ (r = true ↔ RightP n o x y a b) := by
  unfold rickyardref02_Right.f RightP
  by_cases h : n = 0
  · rw [if_pos h]
    subst h
    cases o with
    | true => exact ⟨_, rfl, by simp⟩
    | false =>
      rw [if_neg (by decide)]
      by_cases h1 : x = 0
      · rw [if_pos h1]
        by_cases h2 : y = 0
        · rw [if_pos h2]
          by_cases h3 : a = 0
          · rw [if_pos h3]; exact ⟨_, rfl, by simp [h1, h2, h3]⟩
          · rw [if_neg h3]; exact ⟨_, rfl, by simp [h3]⟩
        · rw [if_neg h2]; exact ⟨_, rfl, by simp [h2]⟩
      · rw [if_neg h1]; exact ⟨_, rfl, by simp [h1]⟩
  · rw [if_neg h]
    cases o with
    | true =>
      rw [if_pos rfl]
      by_cases h1 : n = 18446744073709551615
      · rw [if_pos h1]; subst h1; exact ⟨_, rfl, by simp⟩
      · rw [if_neg h1]; exact ⟨_, rfl, by simp [h1, h]⟩
    | false => rw [if_neg (by decide)]; exact ⟨_, rfl, by simp [h]⟩
theorem refEight_f (v : Int) (h : 0 ≤ v ∧ v < 18446744073709551616) : rickyardref02_Eight.f v = some (e8 v.toNat) := by
  unfold rickyardref02_Eight.f
  rw [write_same 0 v h.1 h.2]
  unfold wide_Write.f
  simp only [Option.bind_some]
  rw [wl_e8 0 v h.1 h.2, if_pos (by rw [List.length_append, e8_len, e8_len]; decide), show (8 : Int).toNat = 8 from rfl, List.drop_left' (e8_len _)]
theorem refWrite_j0 (k : Nat) (f n x y a b : Int) (o : Bool) (hn : 0 ≤ n ∧ n < 18446744073709551616) (hy : 0 ≤ y ∧ y < 18446744073709551616) :
    rickyardref02_Write.j0 (k + 1) [] f n o x y a b = some ([f] ++ e8 n.toNat ++ (e8 (IntKind.u64.wrap x).toNat ++ e8 y.toNat) ++ e8 (IntKind.u64.wrap a).toNat ++ e8 (IntKind.u64.wrap b).toNat, 0) := by
  have ha := u64_rng a
  have hb := u64_rng b
  rw [rickyardref02_Write.j0, if_pos (by decide)]
  simp only [Option.bind_some]
  rw [refEight_f n hn]
  simp only [Option.bind_some]
  rw [if_pos (by simp [e8_len]), write_same x y hy.1 hy.2]
  unfold wide_Write.f
  simp only [Option.bind_some]
  rw [wl_e8 x y hy.1 hy.2, if_pos (by simp [e8_len]), refEight_f _ ha]
  simp only [Option.bind_some]
  rw [if_pos (by simp [e8_len]), refEight_f _ hb]
  simp only [Option.bind_some]
  rw [if_pos (by simp [e8_len])]
  rfl
theorem refWrite_f (k : Nat) (n x y a b : Int) (o : Bool) (hn : 0 ≤ n ∧ n < 18446744073709551616) (hy : 0 ≤ y ∧ y < 18446744073709551616) :
    (RightP n o x y a b → rickyardref02_Write.f (k + 1) n o x y a b = some (aggL n o x y a b, 0)) ∧ (¬ RightP n o x y a b → rickyardref02_Write.f (k + 1) n o x y a b = some ([], 3)) := by
  obtain ⟨r, hr, hp⟩ := refRight_f n o x y a b
  unfold rickyardref02_Write.f
  rw [hr]
  simp only [Option.bind_some]
  constructor
  · intro h
    rw [hp.2 h, if_pos rfl]
    cases o with
    | true => rw [if_pos rfl]; exact refWrite_j0 k 1 n x y a b true hn hy
    | false => rw [if_neg (by decide)]; exact refWrite_j0 k 0 n x y a b false hn hy
  · intro h
    rw [if_neg (fun e => h (hp.1 e))]
theorem refNumber_l0 {l : List Int} (hb : IsBy l) (hl : l.length ≤ 8) (d : Nat) : ∀ (k i : Nat), i + d = l.length → rickyardref02_Number.l0 (k + d + 1) l ((accB l 0 i : Nat) : Int) i = some ((accB l 0 l.length : Nat) : Int) := by
  induction d with
  | zero =>
    intro k i hi
    obtain rfl : i = l.length := by omega
    rw [rickyardref02_Number.l0, if_neg (by omega)]
  | succ d ih =>
    intro k i hi
    have hlt := accB_lt hb 0 i
    have hp : 256 ^ i ≤ 256 ^ 7 := Nat.pow_le_pow_right (by decide) (by omega)
    have hp7 : (256 : Nat) ^ 7 = 72057594037927936 := rfl
    have hat := hb.at_ i
    obtain ⟨c, hc⟩ : ∃ c : Nat, l.getD i 0 = (c : Int) := ⟨(l.getD i 0).toNat, by omega⟩
    have hr : rd l (i : Int) = (c : Int) := by rw [← hc]; show l.getD ((i : Int)).toNat 0 = _; rw [Int.toNat_natCast]
    have e3 : accB l 0 (i + 1) = 256 * accB l 0 i + c := by rw [accB, Nat.zero_add, hc, Int.toNat_natCast]
    have e1 : IntKind.u64.wrap (IntKind.u64.wrap (256 * ((accB l 0 i : Nat) : Int)) + IntKind.u64.wrap (c : Int)) = ((accB l 0 (i + 1) : Nat) : Int) := by rw [e3, IntKind.wrap_u64, IntKind.wrap_u64, IntKind.wrap_u64]; omega
    rw [show k + (d + 1) + 1 = (k + d + 1) + 1 from rfl, rickyardref02_Number.l0, if_pos (by omega), if_pos (by omega), hr, e1, show wrap64 ((i : Int) + 1) = ((i + 1 : Nat) : Int) by unfold wrap64; omega]
    exact ih k (i + 1) (by omega)
theorem refNumber_f {l : List Int} (hb : IsBy l) (hl : l.length = 8) (k : Nat) : rickyardref02_Number.f (k + 9) l = some ((v8 l : Nat) : Int) := by
  unfold rickyardref02_Number.f
  have := refNumber_l0 hb (by omega) 8 k 0 (by omega)
  rw [accB_zero, hl] at this
  exact this

theorem strIs_inj {a b : List Int} (ha : IsBy a) (hb : IsBy b) (h : (strOfNums a).toList = (strOfNums b).toList) : a = b := by
  rw [Go.Lib.strOfNums_toList, Go.Lib.strOfNums_toList] at h
  unfold Go.Lib.bytesOf at h
  have hl : a.length = b.length := by have := congrArg List.length h; simpa using this
  apply List.ext_getElem hl
  intro i h1 h2
  have h3 : (a.map fun n : Int => UInt8.ofNat n.toNat)[i]? = (b.map fun n : Int => UInt8.ofNat n.toNat)[i]? := by rw [h]
  rw [List.getElem?_map, List.getElem?_map, List.getElem?_eq_getElem h1, List.getElem?_eq_getElem h2] at h3
  simp only [Option.map_some, Option.some.injEq] at h3
  have h4 := congrArg UInt8.toNat h3
  have p1 := ha _ (List.getElem_mem h1)
  have p2 := hb _ (List.getElem_mem h2)
  simp only [UInt8.toNat_ofNat'] at h4
  omega

/-- The reference reads as the code does. -/
theorem refRead_same {l : List Int} (hb : IsBy l) (k : Nat) : rickyardref02_Read.f (k + 9) l = agg_Read.f (k + 9) l := by
  by_cases h1 : l.length = 41
  · obtain ⟨n, y, x, a, b, P, hn, hy, _, _, _, e⟩ := aggRead_f hb h1 k
    have q : ((l.take 25).drop 9).length = 16 := by simp [h1]
    have qb := by_drop (by_take hb 25) 9
    rw [e]
    unfold rickyardref02_Read.f
    rw [if_neg (by omega), if_neg (by omega), if_pos (by decide), if_pos (by omega), refNumber_f (by_drop (by_take hb 9) 1) (by simp [h1]) k]
    simp only [Option.bind_some]
    rw [if_pos (by omega), if_pos (by decide), if_pos (by omega), refNumber_f (by_drop (by_take hb 33) 25) (by simp [h1]) k]
    simp only [Option.bind_some]
    rw [if_pos (by decide), if_pos (by omega), show l.take 41 = l from List.take_of_length_le (by omega), refNumber_f (by_drop hb 33) (by simp [h1]) k]
    simp only [Option.bind_some]
    rw [if_pos (by decide), if_pos (by omega), read_same]
    unfold wide_Read.f
    rw [q, if_neg (by decide), if_neg (by decide), if_pos qb]
    simp only [Option.bind_some]
    rw [P.n_, P.x_, P.y_, P.a_, P.b_]
    obtain ⟨w1, w2⟩ := refWrite_f (k + 8) n x y a b (rd l 0 != 0) (by omega) (by omega)
    have h0 : 0 ≤ rd l 0 := (hb.at_ 0).1
    by_cases h2 : rd l 0 > 1
    · rw [if_pos h2]
      by_cases h3 : RightP n (rd l 0 != 0) x y a b
      · rw [w1 h3]
        simp only [Option.bind_some, if_true]
        rw [if_neg ?_]
        intro h4
        have h5 := strIs_inj (aggL_by _ _ _ _ _ _) hb h4
        have h6 := aggL_rd n (rd l 0 != 0) x y a b
        rw [h5, if_pos (by simp; omega)] at h6
        omega
      · rw [w2 h3]
        rfl
    · rw [if_neg h2]
      have ho : (rd l 0 != 0) = (rd l 0 == 1) := by
        by_cases h3 : rd l 0 = 0
        · rw [h3]; rfl
        · obtain h4 : rd l 0 = 1 := by omega
          rw [h4]; rfl
      rw [ho] at w1 w2 ⊢
      obtain ⟨r, hr, hp⟩ := right_f n (rd l 0 == 1) x y a b
      rw [hr]
      by_cases h3 : RightP n (rd l 0 == 1) x y a b
      · have h7 : aggL n (rd l 0 == 1) x y a b = l := aggL_back hb h1 P _ (by
          by_cases h3 : rd l 0 = 1
          · rw [h3]; rfl
          · rw [if_neg (by simpa using h3)]; omega)
        rw [w1 h3, h7, hp.2 h3]
        simp only [Option.bind_some, if_true]
      · rw [w2 h3]
        have : r = false := by cases r with
          | true => exact absurd (hp.1 rfl) h3
          | false => rfl
        rw [this]
        rfl
  · unfold agg_Read.f rickyardref02_Read.f
    by_cases h2 : (l.length : Int) < 41
    · rw [if_pos h2, if_pos h2]
    · rw [if_neg h2, if_pos (by omega), if_neg h2, if_pos (by omega)]


theorem AggBytes_f (n : Int) (o : Bool) (x y a b : Int) (l : List Int) (hl : IsBy l) (hn : 0 ≤ n ∧ n < 18446744073709551616) (hy : 0 ≤ y ∧ y < 18446744073709551616) :
    rickyardlaw02_AggBytes.f 100 n o x y a b l = some true := by
  unfold rickyardlaw02_AggBytes.f
  by_cases hlen : (l.length : Int) > 200
  · rw [if_pos hlen, alive02_f 100 (by decide)]; rfl
  · have hw : ∃ m e, agg_Write.f 100 n o x y a b = some (m, e) ∧ rickyardref02_Write.f 100 n o x y a b = some (m, e) := by
      obtain ⟨h1, h2⟩ := aggWrite_f 90 n x y a b o hn hy
      obtain ⟨h3, h4⟩ := refWrite_f 99 n x y a b o hn hy
      by_cases h : RightP n o x y a b
      · exact ⟨_, _, h1 h, h3 h⟩
      · exact ⟨_, _, h2 h, h4 h⟩
    obtain ⟨m, e, hw1, hw2⟩ := hw
    obtain ⟨n', o', x', y', a', b', e', hr, _, _, _⟩ := read_any hl 91
    have hr1 : agg_Read.f 100 l = some (n', o', x', y', a', b', e') := hr
    have hr2 : rickyardref02_Read.f 100 l = some (n', o', x', y', a', b', e') := (refRead_same hl 91).trans hr
    rw [if_neg hlen, hw1, hw2, hr1, hr2, alive02_f 100 (by decide)]
    simp only [Option.bind_some, if_true, beq_self_eq_true, Bool.and_self]
theorem AggBytes_walk (n0 : Int) (o0 : Bool) (x0 y0 a0 b0 : Int) (A : Option Addr) (c : Nat) (l : List Int) (w : World) (wn0 : (Lit.int .u64 n0).wf = true) (wx0 : (Lit.int .i64 x0).wf = true) (wy0 : (Lit.int .u64 y0).wf = true) (wa0 : (Lit.int .i64 a0).wf = true) (wb0 : (Lit.int .i64 b0).wf = true)
    (hr : Kd.C (Kd.int .u8) w A l.length l) (hc : l.length ≤ c) (hb : ∀ x ∈ l, 0 ≤ x ∧ x < 256) :
    Calls Try.prog 7 #[.agg #[.int .u64 n0, .bool o0, .int .i64 x0, .int .u64 y0, .int .i64 a0, .int .i64 b0], .slice A l.length c] w fun e w' => e = .returned (.bool true) ∧ Below w.heap.size w w' :=
  rickyardlaw02_AggBytes.calls 100 n0 o0 x0 y0 a0 b0 A c l true w hr hc (AggBytes_f n0 o0 x0 y0 a0 b0 l hb (wf_u64 wn0) (wf_u64 wy0)) rfl

end Go.Proofs.Ytflmjiadahknkaa.Pure
