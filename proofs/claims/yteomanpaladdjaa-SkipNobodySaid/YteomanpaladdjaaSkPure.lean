/- What put tells, in plain Lean: neither the heights nor the order are of any matter. No conditions. -/
import Derived.Test.YteomanpaladdjaaSkPuts
namespace Go.Proofs.Yteomanpaladdjaa.P
open Go.RowKit Go.Proofs.Yteomanpaladdjaa.Pure Go.Proofs.YteomanpaladdjaaW.PrintWords Go.Proofs.YteomanpaladdjaaW.PrintLast Go.Proofs.YteomanpaladdjaaW.PrintMore
set_option linter.unusedVariables false
set_option linter.unusedSimpArgs false
/-- An entry that may be put. -/
def Fok (x : En) : Prop := 1 ≤ x.f0.length ∧ x.f0.length ≤ 256 ∧ x.f1.f0 ≠ 0 ∧ rightB x.f1 = true
theorem hAt_ok (hs : List Int) (i : Nat) : 1 ≤ hAt hs i ∧ hAt hs i ≤ 8 := by
  unfold hAt
  split
  · omega
  · next x _ => have := bits7 x; omega
theorem skErr_fok {es : List En} {x : En} {h : Int} (hx : Fok x) (hh : 1 ≤ h ∧ h ≤ 8) (hl : es.length < 4096) : skErr es false x h = 0 := by
  unfold skErr
  obtain ⟨h1, h2, h3, h4⟩ := hx
  rw [if_neg (by omega), if_neg (by decide), if_neg (by omega), if_neg (by rintro (h | h); exact h3 h; rw [h4] at h; cases h)]
  split
  · rfl
  · rw [if_neg (by omega)]
theorem fok_of {es : List En} {x : En} {h : Int} (h0 : skErr es false x h = 0) : Fok x := by
  obtain ⟨_, _, _, h1, h2, h3, h4, _⟩ := skErr_zero h0
  exact ⟨h1, h2, h3, h4⟩
def nE : En := ⟨[], zAg⟩
/-- The entries as they are put. -/
def segE (l : List En) (t i k : Nat) : List En := (List.range' i k).map (fun j => l.getD ((j + t) % l.length) nE)
theorem getE_some {l : List En} {i : Nat} (h : i < l.length) : l[i]? = some (l.getD i nE) := by rw [List.getD_eq_getElem?_getD, List.getElem?_eq_getElem h]; rfl
theorem putStep_ok {l : List En} {hs : List Int} {t i : Nat} {es : List En} (hi : i < l.length) (hall : ∀ x ∈ l, Fok x) (hl : es.length < 4096) : putStep l hs t i es = some (putL es (l.getD ((i + t) % l.length) nE)) := by
  have hj : (i + t) % l.length < l.length := Nat.mod_lt _ (by omega)
  have e1 := getE_some hi
  have e2 := getE_some hj
  have f1 := hall _ (List.mem_of_getElem? e1)
  have f2 := hall _ (List.mem_of_getElem? e2)
  unfold putStep
  rw [e1, e2]
  simp only []
  have e3 := skErr_fok (es := es) f2 (hAt_ok hs i) hl
  rw [if_neg (by have := f1.2.1; omega), if_pos e3]
  unfold skNew
  rw [if_pos e3]
theorem putFrom_ok {l : List En} {hs : List Int} {t : Nat} (hall : ∀ x ∈ l, Fok x) : ∀ (k i : Nat) (es : List En), i + k = l.length → es.length + k ≤ 4096 → putFrom l hs t k i es = some ((segE l t i k).foldl putL es)
  | 0, i, es, _, _ => rfl
  | k + 1, i, es, hi, hl => by
    rw [putFrom, putStep_ok (by omega) hall (by omega)]
    simp only []
    rw [putFrom_ok hall k (i + 1) _ (by omega) (by have := putL_len es (l.getD ((i + t) % l.length) nE); omega)]
    unfold segE
    rw [List.range'_succ, List.map_cons, List.foldl_cons]
theorem putFrom_fok {l : List En} {hs : List Int} {t : Nat} : ∀ (k i : Nat) (es r : List En), i + k = l.length → putFrom l hs t k i es = some r → ∀ j, i ≤ j → j < l.length → Fok (l.getD ((j + t) % l.length) nE)
  | 0, i, es, r, hi, _, j, h1, h2 => by omega
  | k + 1, i, es, r, hi, h, j, h1, h2 => by
    rw [putFrom] at h
    cases hs1 : putStep l hs t i es with
    | none => rw [hs1] at h; cases h
    | some es' =>
      rw [hs1] at h
      by_cases hij : j = i
      · subst hij
        have hj : (j + t) % l.length < l.length := Nat.mod_lt _ (by omega)
        unfold putStep at hs1
        rw [getE_some h2, getE_some hj] at hs1
        simp only [] at hs1
        split at hs1
        · cases hs1
        · split at hs1
          · next h0 => exact fok_of h0
          · cases hs1
      · exact putFrom_fok k (i + 1) es' r (by omega) h j (by omega) h2
theorem seg_perm (l : List En) (t : Nat) : (segE l t 0 l.length).Perm l := by
  by_cases h0 : l.length = 0
  · have e : l = [] := List.eq_nil_of_length_eq_zero h0
    subst e; exact List.Perm.nil
  · have hs : t % l.length < l.length := Nat.mod_lt _ (by omega)
    have e : segE l t 0 l.length = l.drop (t % l.length) ++ l.take (t % l.length) := by
      apply List.ext_getElem?
      intro i
      unfold segE
      rw [List.getElem?_map]
      by_cases hi : i < l.length
      · rw [List.getElem?_range' hi, Option.map_some, Nat.zero_add, Nat.one_mul]
        have hj : (i + t) % l.length < l.length := Nat.mod_lt _ (by omega)
        rw [← getE_some hj]
        by_cases hc : i < l.length - t % l.length
        · rw [List.getElem?_append_left (by rw [List.length_drop]; exact hc), List.getElem?_drop]
          congr 1
          rw [Nat.add_mod, Nat.mod_eq_of_lt hi, Nat.mod_eq_of_lt (by omega)]
          omega
        · rw [List.getElem?_append_right (by rw [List.length_drop]; omega), List.length_drop, List.getElem?_take, if_pos (by omega)]
          congr 1
          rw [Nat.add_mod, Nat.mod_eq_of_lt hi, Nat.mod_eq_sub_mod (by omega), Nat.mod_eq_of_lt (by omega)]
          omega
      · rw [List.getElem?_eq_none (l := List.range' 0 l.length) (by rw [List.length_range']; omega), Option.map_none, List.getElem?_eq_none (by rw [List.length_append, List.length_drop, List.length_take]; omega)]
    rw [e]
    exact List.perm_append_comm.trans (by rw [List.take_append_drop])
theorem put_all_fok {l : List En} {hs : List Int} {t : Nat} {r : List En} (h : putAll l hs t = some r) : ∀ x ∈ l, Fok x := fun x hx => by
  have hx2 := (seg_perm l t).mem_iff.2 hx
  unfold segE at hx2
  obtain ⟨j, hj, rfl⟩ := List.mem_map.1 hx2
  have := List.mem_range'_1.1 hj
  exact putFrom_fok l.length 0 [] r (by omega) h j (by omega) (by omega)
theorem put_all_ok {l : List En} {hs : List Int} {t : Nat} (hall : ∀ x ∈ l, Fok x) (hl : l.length ≤ 100) : putAll l hs t = some ((segE l t 0 l.length).foldl putL []) := putFrom_ok hall l.length 0 [] (by omega) (by simp; omega)
/-- What put tells hangs on what is put alone. -/
theorem refL_perm {l m : List En} (h : l.Perm m) (hb : ∀ x ∈ l, Byt x) (hg : ∀ x ∈ l, GoodA x.f1) : l.foldl putL [] = m.foldl putL [] := by
  have hbm : ∀ x ∈ m, Byt x := fun x hx => hb x (h.mem_iff.2 hx)
  obtain ⟨r1, b1, g1⟩ := refL_spec l [] List.Pairwise.nil (fun y hy => by cases hy) hb
  obtain ⟨r2, b2, g2⟩ := refL_spec m [] List.Pairwise.nil (fun y hy => by cases hy) hbm
  refine rises_ext r1 r2 b1 b2 (fun k => ?_)
  rw [g1, g2]
  simp only [gk_nil, List.nil_append]
  exact fold1_perm ((h.filter _).map _) (gk_good hg)
theorem good_of {x : En} (ho : OkAg x.f1) (hf : Fok x) : GoodA x.f1 := ⟨ho, hf.2.2.2⟩
theorem put_all_eq {l : List En} {hs hs' : List Int} {t t' : Nat} (hl : l.length ≤ 100) (hok : ∀ x ∈ l, Byt x ∧ OkAg x.f1) : putAll l hs t = putAll l hs' t' := by
  by_cases hall : ∀ x ∈ l, Fok x
  · rw [put_all_ok hall hl, put_all_ok hall hl]
    congr 1
    refine refL_perm ((seg_perm l t).trans (seg_perm l t').symm) (fun x hx => (hok x ((seg_perm l t).mem_iff.1 hx)).1) (fun x hx => ?_)
    have := (seg_perm l t).mem_iff.1 hx
    exact good_of (hok x this).2 (hall x this)
  · have hn : ∀ (hs : List Int) (t : Nat), putAll l hs t = none := fun hs t => by
      cases h : putAll l hs t with
      | none => rfl
      | some r => exact absurd (put_all_fok h) hall
    rw [hn, hn]
end Go.Proofs.Yteomanpaladdjaa.P
