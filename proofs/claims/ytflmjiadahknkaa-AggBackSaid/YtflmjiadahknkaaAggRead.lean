/- What Read tells of any bytes, and of those that Write wrote. No conditions. -/
import Derived.Test.YtflmjiadahknkaaAggBytes
namespace Go.Proofs.Ytflmjiadahknkaa.Pure
open Go.RowKit Go.Proofs.Ytflmjiadahknkaa.P Go.Proofs.YtflmjiadahknkaaW.PrintWords Go.Proofs.YtflmjiadahknkaaW.PrintLast
set_option linter.unusedVariables false
set_option linter.unusedSimpArgs false

theorem cuts {p q r s t u : List Int} (hp : p.length = 1) (hq : q.length = 8) (hr : r.length = 8) (hs : s.length = 8) (ht : t.length = 8) (hu : u.length = 8) :
    ((p ++ q ++ (r ++ s) ++ t ++ u).take 9).drop 1 = q ∧ ((p ++ q ++ (r ++ s) ++ t ++ u).take 25).drop 9 = r ++ s ∧ ((p ++ q ++ (r ++ s) ++ t ++ u).take 33).drop 25 = t ∧ (p ++ q ++ (r ++ s) ++ t ++ u).drop 33 = u := by
  refine ⟨?_, ?_, ?_, ?_⟩
  · rw [show p ++ q ++ (r ++ s) ++ t ++ u = (p ++ q) ++ (r ++ s ++ t ++ u) by simp only [List.append_assoc], List.take_left' (by simp [hp, hq]), List.drop_left' hp]
  · rw [show p ++ q ++ (r ++ s) ++ t ++ u = (p ++ q ++ (r ++ s)) ++ (t ++ u) by simp only [List.append_assoc], List.take_left' (by simp [hp, hq, hr, hs]), List.drop_left' (by simp [hp, hq])]
  · rw [List.take_left' (by simp [hp, hq, hr, hs, ht]), List.drop_left' (by simp [hp, hq, hr, hs])]
  · rw [List.drop_left' (by simp [hp, hq, hr, hs, ht])]
theorem wrap64_u64 {x : Int} (h : -9223372036854775808 ≤ x ∧ x < 9223372036854775808) : wrap64 (((IntKind.u64.wrap x).toNat : Nat) : Int) = x := by
  rw [IntKind.wrap_u64]
  unfold wrap64
  omega
theorem Pc_L {n : Int} {o : Bool} {x y a b : Int} (hn : 0 ≤ n ∧ n < 18446744073709551616) (hx : -9223372036854775808 ≤ x ∧ x < 9223372036854775808) (hy : 0 ≤ y ∧ y < 18446744073709551616) (ha : -9223372036854775808 ≤ a ∧ a < 9223372036854775808) (hb : -9223372036854775808 ≤ b ∧ b < 9223372036854775808) :
    Pc (aggL n o x y a b) n.toNat x y.toNat a b := by
  obtain ⟨c1, c2, c3, c4⟩ := cuts (p := [if o = true then (1 : Int) else 0]) rfl (e8_len n.toNat) (e8_len (IntKind.u64.wrap x).toNat) (e8_len y.toNat) (e8_len (IntKind.u64.wrap a).toNat) (e8_len (IntKind.u64.wrap b).toNat)
  have q : (e8 (IntKind.u64.wrap x).toNat ++ e8 y.toNat).length = 16 := by rw [List.length_append, e8_len, e8_len]
  have lt : ∀ z : Int, (IntKind.u64.wrap z).toNat < 18446744073709551616 := fun z => by have := u64_rng z; omega
  unfold aggL
  refine ⟨?_, ?_, ?_, ?_, ?_⟩
  · rw [c1, v8_e8 (by omega)]
  · rw [c2, acc_lo _ q, List.take_left' (e8_len _), v8_e8 (lt x), wrap64_u64 hx]
  · rw [c2, acc_hi _ q, List.drop_left' (e8_len _), v8_e8 (by omega)]
  · rw [c3, v8_e8 (lt a), wrap64_u64 ha]
  · rw [c4, v8_e8 (lt b), wrap64_u64 hb]
theorem by_app {l m : List Int} (h : IsBy l) (k : IsBy m) : IsBy (l ++ m) := fun x hx => (List.mem_append.1 hx).elim (h x) (k x)
theorem aggL_by (n : Int) (o : Bool) (x y a b : Int) : IsBy (aggL n o x y a b) := by
  unfold aggL
  refine by_app (by_app (by_app (by_app ?_ (e8_by _)) (by_app (e8_by _) (e8_by _))) (e8_by _)) (e8_by _)
  intro z hz
  rw [List.mem_singleton] at hz
  subst hz
  cases o <;> simp
theorem aggL_rd (n : Int) (o : Bool) (x y a b : Int) : rd (aggL n o x y a b) 0 = if o = true then 1 else 0 := rfl
theorem read_aggL {n : Int} {o : Bool} {x y a b : Int} (hn : 0 ≤ n ∧ n < 18446744073709551616) (hx : -9223372036854775808 ≤ x ∧ x < 9223372036854775808) (hy : 0 ≤ y ∧ y < 18446744073709551616) (ha : -9223372036854775808 ≤ a ∧ a < 9223372036854775808) (hb : -9223372036854775808 ≤ b ∧ b < 9223372036854775808)
    (h : RightP n o x y a b) (k : Nat) : agg_Read.f (k + 9) (aggL n o x y a b) = some (n, o, x, y, a, b, 0) := by
  obtain ⟨n', y', x', a', b', P', _, _, _, _, _, e⟩ := aggRead_f (aggL_by n o x y a b) (aggL_len n o x y a b) k
  have P := Pc_L (o := o) hn hx hy ha hb
  have e1 : (n' : Int) = n := by have := P'.n_.symm.trans P.n_; omega
  have e2 : (y' : Int) = y := by have := P'.y_.symm.trans P.y_; omega
  have e3 : x' = x := P'.x_.symm.trans P.x_
  have e4 : a' = a := P'.a_.symm.trans P.a_
  have e5 : b' = b := P'.b_.symm.trans P.b_
  rw [e, e1, e2, e3, e4, e5, aggL_rd]
  obtain ⟨r, hr, hp⟩ := right_f n o x y a b
  have ho : ((if o = true then (1 : Int) else 0) == 1) = o := by cases o <;> rfl
  rw [ho, hr, hp.2 h, if_neg (by cases o <;> decide)]
  rfl

theorem read_any {l : List Int} (hb : IsBy l) (k : Nat) : ∃ (n : Int) (o : Bool) (x y a b e : Int), agg_Read.f (k + 9) l = some (n, o, x, y, a, b, e) ∧ (0 ≤ n ∧ n < 18446744073709551616) ∧ (0 ≤ y ∧ y < 18446744073709551616) ∧ (e = 0 → RightP n o x y a b ∧ aggL n o x y a b = l) := by
  by_cases h1 : l.length = 41
  · obtain ⟨n, y, x, a, b, P, hn, hy, _, _, _, e⟩ := aggRead_f hb h1 k
    by_cases h2 : rd l 0 > 1
    · exact ⟨_, _, _, _, _, _, _, by rw [e, if_pos h2], by omega, by omega, fun h => by cases h⟩
    · obtain ⟨r, hr, hp⟩ := right_f n (rd l 0 == 1) x y a b
      rw [if_neg h2, hr] at e
      cases r with
      | false => exact ⟨_, _, _, _, _, _, _, by rw [e]; rfl, by omega, by omega, fun h => by cases h⟩
      | true =>
        refine ⟨_, _, _, _, _, _, _, by rw [e]; rfl, by omega, by omega, fun _ => ⟨hp.1 rfl, aggL_back hb h1 P _ ?_⟩⟩
        have h0 : 0 ≤ rd l 0 := (hb.at_ 0).1
        by_cases h3 : rd l 0 = 1
        · rw [h3]; rfl
        · rw [if_neg (by simpa using h3)]; omega
  · unfold agg_Read.f
    by_cases h2 : (l.length : Int) < 41
    · exact ⟨_, _, _, _, _, _, _, by rw [if_pos h2], by omega, by omega, fun h => by cases h⟩
    · exact ⟨_, _, _, _, _, _, _, by rw [if_neg h2, if_pos (by omega)], by omega, by omega, fun h => by cases h⟩

end Go.Proofs.Ytflmjiadahknkaa.Pure
