/- put: a list of entries is put in. No conditions. -/
import Derived.Test.YteomanpaladdjaaSkAlive
namespace Go.Proofs.Yteomanpaladdjaa.P
open Go.RowKit Go.Proofs.Yteomanpaladdjaa.Pure Go.Proofs.YteomanpaladdjaaW.PrintWords Go.Proofs.YteomanpaladdjaaW.PrintLast Go.Proofs.YteomanpaladdjaaW.PrintMore
set_option linter.unusedVariables false
set_option linter.unusedSimpArgs false
theorem at_u8 {w : World} {A : Option Addr} {l : List Int} (h : Kd.C (Kd.int .u8) w A l.length l) {i : Nat} {x : Int} (hx : l[i]? = some x) : ∃ ad, A = some ad ∧ w.cell? (ad.add i) = some (.int .u8 x) := by
  have hi := (List.getElem?_eq_some_iff.1 hx).1
  obtain ⟨ad, c, e, _, hK, hc0⟩ := Kd.C_get h (0 : Int) (i : Int) (by omega) (by omega)
  rw [Int.toNat_natCast] at hK hc0
  have hx2 : l.getD i 0 = x := by rw [List.getD_eq_getElem?_getD, hx]; rfl
  rw [hx2] at hK
  obtain rfl : c = [.int .u8 x] := hK
  have := hc0 0 _ rfl
  have h2 : w.cell? (ad.add (i * 1 + 0)) = some (.int .u8 x) := this
  rw [Nat.mul_one, Nat.add_zero] at h2
  exact ⟨ad, e, h2⟩
theorem bits_and_u8 (x y : Int) : Go.bits .and .u8 x y = ((BitVec.ofInt 8 x &&& BitVec.ofInt 8 y).toNat : Int) := by
  unfold Go.bits
  have := (BitVec.ofInt 8 x &&& BitVec.ofInt 8 y).isLt
  show IntKind.u8.wrap _ = _
  rw [IntKind.wrap_u8]
  show (((BitVec.ofInt 8 x &&& BitVec.ofInt 8 y).toNat : Int)) % 256 = _
  omega
theorem bits7 (x : Int) : 0 ≤ Go.bits .and .u8 x 7 ∧ Go.bits .and .u8 x 7 ≤ 7 := by
  rw [bits_and_u8, BitVec.toNat_and]
  have h := Nat.and_le_right (n := (BitVec.ofInt 8 x).toNat) (m := (BitVec.ofInt 8 7).toNat)
  have e : (BitVec.ofInt 8 7).toNat = 7 := by decide
  omega
def hAt (hs : List Int) (i : Nat) : Int := match hs[i]? with | none => 1 | some x => 1 + Go.bits .and .u8 x 7
def putStep (l : List En) (hs : List Int) (turn i : Nat) (es : List En) : Option (List En) :=
  match l[i]?, l[(i + turn) % l.length]? with
  | some x0, some x => if 1000 < x0.f0.length then none else if skErr es false x (hAt hs i) = 0 then some (skNew es false x (hAt hs i)) else none
  | _, _ => none
def putFrom (l : List En) (hs : List Int) (turn : Nat) : Nat → Nat → List En → Option (List En)
  | 0, _, es => some es
  | k + 1, i, es => match putStep l hs turn i es with | none => none | some es' => putFrom l hs turn k (i + 1) es'
def putAll (l : List En) (hs : List Int) (turn : Nat) : Option (List En) := putFrom l hs turn l.length 0 []
/-- What put tells. -/
def PutsP (w : World) (r : Option (List En)) (e : Ending) (w' : World) : Prop := Below w.heap.size w w' ∧
  match r with
  | none => e = .returned (.pointer none)
  | some es => ∃ g ok, e = .returned (.pointer (some ⟨g, 0, none⟩)) ∧ SkS w' w.heap.size ok g es false ∧ GoodL es
theorem w1q {q : Int} (h : 0 ≤ q ∧ q ≤ 7) : wrap64 (1 + wrap64 q) = 1 + q := by
  have e : wrap64 q = q := by unfold wrap64; omega
  rw [e]; unfold wrap64; omega
theorem w64_sum {a b : Nat} (h : a + b < 4611686018427387904) : wrap64 ((a : Int) + (b : Int)) = ((a + b : Nat) : Int) := by unfold wrap64; omega
theorem LS.put {w W : World} {g : Nat} {es : List En} (h : ∃ ok, SkS W w.heap.size ok g es false) (hb0 : Below w.heap.size w W) (hg : GoodL es) (A : Option Addr) (c : Nat) (x : En) (height : Int) (hx : Kd.C (Kd.int .u8) W A x.f0.length x.f0) (hc : x.f0.length ≤ c) (hb : Byt x) (ho : OkAg x.f1) :
    Calls Try.prog 18 #[.pointer (some ⟨g, 0, none⟩), enV A c x, .int .i64 height] W fun e w' => e = .returned (.int .i64 (skErr es false x height)) ∧ (∃ ok, SkS w' w.heap.size ok g (skNew es false x height) false) ∧ Below w.heap.size w w' := by
  obtain ⟨ok, h1⟩ := h
  refine (Put_S W w.heap.size _ g es false h1.bound hg A c x height hx hc hb ho).mono ?_
  rintro e w' ⟨rfl, hS, hs, hio, hf⟩
  exact ⟨rfl, ⟨_, hS⟩, hb0.trans (hio.below hs (fun k hk => hf k (by have := hb0.size; omega) (fun hk2 => by have := hk2.2.1; omega)))⟩
set_option maxHeartbeats 4000000 in
set_option maxRecDepth 100000 in
theorem put_calls (A0 : Option Addr) (c0 : Nat) (l : List En) (A1 : Option Addr) (c1 : Nat) (hs : List Int) (turn : Nat) (w : World) (hr : Kd.C k38 w A0 l.length l) (hh : Kd.C (Kd.int .u8) w A1 hs.length hs) (hl : l.length ≤ 100) (ht : turn ≤ 1023) (hok : ∀ x ∈ l, Byt x ∧ OkAg x.f1) :
    Calls Try.prog 10 #[.slice A0 l.length c0, .slice A1 hs.length c1, .int .i64 (turn : Int)] w fun e w' => PutsP w (putAll l hs turn) e w' := by
  have hu4 := Try.underlying38
  have hu5 := Try.underlying36
  have HN := Aside0.mk (New_S w)
  have HR := Aside0.mk hr
  have HH := Aside0.mk hh
  have HL := Aside0.mk hl
  have HT := Aside0.mk ht
  have HOK := Aside0.mk hok
  obtain ⟨n, hn⟩ : ∃ n, l.length = n := ⟨_, rfl⟩
  obtain ⟨m, hm⟩ : ∃ n, hs.length = n := ⟨_, rfl⟩
  have HNM := Aside0.mk (And.intro hn hm)
  rw [hn, hm]
  clear hr hh hl ht hok hn hm
  go_enter Try.func10, Try.ntmps10
  go_wp2_with (first | (go_at_call 20; refine (HN.out).mono ?_; rintro e w1 ⟨rfl, hs, hb⟩; have HS := Aside0.mk hs; have HB := Aside0.mk hb; clear hs hb))
  obtain ⟨g, hg⟩ : ∃ b, w.heap.size = b := ⟨_, rfl⟩
  have HG := Aside0.mk hg
  have HS0 := Aside0.mk (show ∃ ok, SkS w1 w.heap.size ok g [] false by rw [← hg]; exact ⟨_, HS.out⟩)
  rw [hg]
  clear hg HS HN
  go_loopg [8] (n + 1) (fun kq v8 w' => ∃ (i : Nat) (es : List En), v8 = .int .i64 (i : Int) ∧ Aside0 (i ≤ n ∧ kq = n + 1 - i ∧ putFrom l hs turn (n - i) i es = putAll l hs turn) ∧ Aside0 (∃ ok, SkS w' w.heap.size ok g es false) ∧ Aside0 (GoodL es) ∧ Aside0 (Below w.heap.size w w'))
  case atStart => exact ⟨0, [], rfl, ⟨Nat.zero_le _, rfl, by unfold putAll; rw [HNM.out.1]; rfl⟩, HS0, ⟨good0⟩, HB⟩
  case round =>
    clear HS0 HB
    obtain ⟨i, es, rfl, HI, HS, HGD, HB⟩ := hrel
    by_cases hi : i < n
    · have d1 : decide ((i : Int) < (n : Int)) = true := decide_eq_true (by omega)
      have d1b : decide (i < n) = true := decide_eq_true hi
      obtain ⟨x0, hx0⟩ : ∃ x, l[i]? = some x := ⟨_, List.getElem?_eq_getElem (by have := HNM.out.1; omega)⟩
      have HX0 := Aside0.mk hx0
      have HIL := Aside0.mk hi
      have i1 : (0 ≤ (i : Int)) = True := eq_true (by omega)
      have i2 : ((i : Int) < (n : Int)) = True := eq_true (by omega)
      have i3 : (i < n) = True := eq_true hi
      by_cases him : i < m
      · obtain ⟨y, hy⟩ : ∃ y, hs[i]? = some y := ⟨_, List.getElem?_eq_getElem (by have := HNM.out.2; omega)⟩
        have d2 : decide ((i : Int) < (m : Int)) = true := decide_eq_true (by omega)
        have d2b : decide (i < m) = true := decide_eq_true him
        have j2 : ((i : Int) < (m : Int)) = True := eq_true (by omega)
        have j3 : (i < m) = True := eq_true him
        obtain ⟨ah, hah, hcy⟩ := at_u8 (Kd.C_below HH.out HB.out) hy
        subst hah
        obtain ⟨q, hq⟩ : ∃ q, Go.bits .and .u8 y 7 = q := ⟨_, rfl⟩
        have HQ := Aside0.mk (show hAt hs i = 1 + q by unfold hAt; rw [hy]; simp only []; rw [hq])
        have HQR := Aside0.mk (show 0 ≤ q ∧ q ≤ 7 by rw [← hq]; exact bits7 y)
        clear hi him hx0 hy
        go_upto_region 8 with (fail)
        rw [w1q HQR.out]
        clear hq
        obtain ⟨hv, hhv⟩ : ∃ h, 1 + q = h := ⟨_, rfl⟩
        rw [hhv] at HQ ⊢
        clear hhv d2 d2b j2 j3 hcy
        obtain ⟨j, hj⟩ : ∃ k, (i + turn) % n = k := ⟨_, rfl⟩
        have hjn : j < n := by rw [← hj]; exact Nat.mod_lt _ (by have := HIL.out; omega)
        have hrem : (wrap64 ((i : Int) + (turn : Int))).tmod (n : Int) = (j : Int) := by
          have e : wrap64 ((i : Int) + (turn : Int)) = ((i + turn : Nat) : Int) := by
            have h1 := HNM.out.1; have h2 := HL.out; have h3 := HIL.out; have h4 := HT.out
            exact w64_sum (by omega)
          rw [e, ← hj, ← Int.ofNat_tmod]
        have hn1 : (n = 0) = False := eq_false (by have := HIL.out; omega)
        have hn2 : ((n : Int) = 0) = False := eq_false (by have := HIL.out; omega)
        have hn0 : ((n : Int) == 0) = false := by rw [beq_eq_false_iff_ne]; have := HIL.out; omega
        obtain ⟨x, hxj⟩ : ∃ x, l[j]? = some x := ⟨_, List.getElem?_eq_getElem (by have := HNM.out.1; omega)⟩
        have HRW := Aside0.mk (Kd.C_below HR.out HB.out)
        obtain ⟨ad, B0, e0, hA, k0, _, _, _, _, _, _, l0, r0⟩ := at_en (by have h_ := HRW.out; exact h_) HX0.out
        obtain ⟨ad', B1, e1, hA', m0, m1, m2, m3, m4, m5, m6, l1, r1⟩ := at_en (by have h_ := HRW.out; exact h_) hxj
        subst hA
        obtain rfl : ad = ad' := Option.some.inj hA'
        have j1 : (0 ≤ (j : Int)) = True := eq_true (by omega)
        have j2 : ((j : Int) < (n : Int)) = True := eq_true (by omega)
        have j3 : (j < n) = True := eq_true hjn
        have HJ := Aside0.mk (show putStep l hs turn i es = if 1000 < x0.f0.length then none else if skErr es false x hv = 0 then some (skNew es false x hv) else none by unfold putStep; rw [HX0.out, HNM.out.1, hj, hxj, HQ.out])
        have HXO := Aside0.mk (HOK.out x (List.mem_of_getElem? hxj))
        have HC1 := Aside0.mk (And.intro l1 r1)
        have HST := Aside0.mk (show putAll l hs turn = match putStep l hs turn i es with | none => none | some es' => putFrom l hs turn (n - (i + 1)) (i + 1) es' by
          have h1 := HI.out.2.2
          have e : n - i = (n - (i + 1)) + 1 := by have := HIL.out; omega
          rw [e, putFrom] at h1
          exact h1.symm)
        obtain ⟨er, her⟩ : ∃ e, skErr es false x hv = e := ⟨_, rfl⟩
        have HPUT := Aside0.mk (LS.put HS.out HB.out HGD.out B1 e1 x hv r1 l1 HXO.out.1 HXO.out.2)
        rw [her] at HJ HPUT
        have HER := Aside0.mk her
        clear hA' hxj hjn l0 r0 l1 r1 hj her
        by_cases hbig : 1000 < x0.f0.length
        · have d4 : decide ((1000 : Int) < (x0.f0.length : Int)) = true := decide_eq_true (by omega)
          have d4b : decide (1000 < x0.f0.length) = true := decide_eq_true hbig
          have HE := Aside0.mk (show putAll l hs turn = none by rw [HST.out, HJ.out, if_pos hbig])
          clear hbig
          go_wp2
          go_ret
          refine ⟨HB.out, ?_⟩
          rw [HE.out]
          rfl
        · have d4 : decide ((1000 : Int) < (x0.f0.length : Int)) = false := decide_eq_false (by omega)
          have d4b : decide (1000 < x0.f0.length) = false := decide_eq_false hbig
          have HBG := Aside0.mk hbig
          clear hbig
          by_cases he0 : er = 0
          · have HE := Aside0.mk (show putAll l hs turn = putFrom l hs turn (n - (i + 1)) (i + 1) (skNew es false x hv) by rw [HST.out, HJ.out, if_neg HBG.out, if_pos he0])
            subst he0
            have HGN := Aside0.mk (HGD.out.put (fr := false) (h := hv) HXO.out.1 HXO.out.2)
            have hw1 : wrap64 ((i : Int) + 1) = ((i + 1 : Nat) : Int) := w64_up (by have := HIL.out; have h1 := HNM.out.1; have h2 := HL.out; omega)
            have HW1 := Aside0.mk hw1
            clear hw1
            go_wp2_with (first | (go_at_call 18; refine (HPUT.out).mono ?_; rintro e w3 ⟨rfl, hs3, hb3⟩; have HS3 := Aside0.mk hs3; have HB3 := Aside0.mk hb3; clear hs3 hb3))
            go_roundg (n + 1 - (i + 1))
            case measure => have h1 := HI.out.2.1; have h2 := HIL.out; omega
            case rel => exact ⟨i + 1, skNew es false x hv, by first | rw [HW1.out] | rfl, ⟨HIL.out, rfl, HE.out.symm⟩, HS3, HGN, HB3⟩
          · have HE := Aside0.mk (show putAll l hs turn = none by rw [HST.out, HJ.out, if_neg HBG.out, if_neg he0])
            have d5 : (er == 0) = false := beq_eq_false_iff_ne.2 he0
            have d5b : (er != 0) = true := bne_iff_ne.2 he0
            have d5c : decide (er = 0) = false := decide_eq_false he0
            clear he0
            go_wp2_with (first | (go_at_call 18; refine (HPUT.out).mono ?_; rintro e w3 ⟨rfl, hs3, hb3⟩; have HB3 := Aside0.mk hb3; clear hs3 hb3))
            go_ret
            refine ⟨HB3.out, ?_⟩
            rw [HE.out]
            rfl
      · have d2 : decide ((i : Int) < (m : Int)) = false := decide_eq_false (by omega)
        have d2b : decide (i < m) = false := decide_eq_false him
        have HQ := Aside0.mk (show hAt hs i = 1 by unfold hAt; rw [List.getElem?_eq_none (by have := HNM.out.2; omega)])
        clear hi him hx0
        go_upto_region 8 with (fail)
        obtain ⟨hv, hhv⟩ : ∃ h, (1 : Int) = h := ⟨_, rfl⟩
        rw [show Value.int IntKind.i64 1 = Value.int IntKind.i64 hv by rw [hhv]]
        rw [hhv] at HQ
        clear hhv d2 d2b
        obtain ⟨j, hj⟩ : ∃ k, (i + turn) % n = k := ⟨_, rfl⟩
        have hjn : j < n := by rw [← hj]; exact Nat.mod_lt _ (by have := HIL.out; omega)
        have hrem : (wrap64 ((i : Int) + (turn : Int))).tmod (n : Int) = (j : Int) := by
          have e : wrap64 ((i : Int) + (turn : Int)) = ((i + turn : Nat) : Int) := by
            have h1 := HNM.out.1; have h2 := HL.out; have h3 := HIL.out; have h4 := HT.out
            exact w64_sum (by omega)
          rw [e, ← hj, ← Int.ofNat_tmod]
        have hn1 : (n = 0) = False := eq_false (by have := HIL.out; omega)
        have hn2 : ((n : Int) = 0) = False := eq_false (by have := HIL.out; omega)
        have hn0 : ((n : Int) == 0) = false := by rw [beq_eq_false_iff_ne]; have := HIL.out; omega
        obtain ⟨x, hxj⟩ : ∃ x, l[j]? = some x := ⟨_, List.getElem?_eq_getElem (by have := HNM.out.1; omega)⟩
        have HRW := Aside0.mk (Kd.C_below HR.out HB.out)
        obtain ⟨ad, B0, e0, hA, k0, _, _, _, _, _, _, l0, r0⟩ := at_en (by have h_ := HRW.out; exact h_) HX0.out
        obtain ⟨ad', B1, e1, hA', m0, m1, m2, m3, m4, m5, m6, l1, r1⟩ := at_en (by have h_ := HRW.out; exact h_) hxj
        subst hA
        obtain rfl : ad = ad' := Option.some.inj hA'
        have j1 : (0 ≤ (j : Int)) = True := eq_true (by omega)
        have j2 : ((j : Int) < (n : Int)) = True := eq_true (by omega)
        have j3 : (j < n) = True := eq_true hjn
        have HJ := Aside0.mk (show putStep l hs turn i es = if 1000 < x0.f0.length then none else if skErr es false x hv = 0 then some (skNew es false x hv) else none by unfold putStep; rw [HX0.out, HNM.out.1, hj, hxj, HQ.out])
        have HXO := Aside0.mk (HOK.out x (List.mem_of_getElem? hxj))
        have HC1 := Aside0.mk (And.intro l1 r1)
        have HST := Aside0.mk (show putAll l hs turn = match putStep l hs turn i es with | none => none | some es' => putFrom l hs turn (n - (i + 1)) (i + 1) es' by
          have h1 := HI.out.2.2
          have e : n - i = (n - (i + 1)) + 1 := by have := HIL.out; omega
          rw [e, putFrom] at h1
          exact h1.symm)
        obtain ⟨er, her⟩ : ∃ e, skErr es false x hv = e := ⟨_, rfl⟩
        have HPUT := Aside0.mk (LS.put HS.out HB.out HGD.out B1 e1 x hv r1 l1 HXO.out.1 HXO.out.2)
        rw [her] at HJ HPUT
        have HER := Aside0.mk her
        clear hA' hxj hjn l0 r0 l1 r1 hj her
        by_cases hbig : 1000 < x0.f0.length
        · have d4 : decide ((1000 : Int) < (x0.f0.length : Int)) = true := decide_eq_true (by omega)
          have d4b : decide (1000 < x0.f0.length) = true := decide_eq_true hbig
          have HE := Aside0.mk (show putAll l hs turn = none by rw [HST.out, HJ.out, if_pos hbig])
          clear hbig
          go_wp2
          go_ret
          refine ⟨HB.out, ?_⟩
          rw [HE.out]
          rfl
        · have d4 : decide ((1000 : Int) < (x0.f0.length : Int)) = false := decide_eq_false (by omega)
          have d4b : decide (1000 < x0.f0.length) = false := decide_eq_false hbig
          have HBG := Aside0.mk hbig
          clear hbig
          by_cases he0 : er = 0
          · have HE := Aside0.mk (show putAll l hs turn = putFrom l hs turn (n - (i + 1)) (i + 1) (skNew es false x hv) by rw [HST.out, HJ.out, if_neg HBG.out, if_pos he0])
            subst he0
            have HGN := Aside0.mk (HGD.out.put (fr := false) (h := hv) HXO.out.1 HXO.out.2)
            have hw1 : wrap64 ((i : Int) + 1) = ((i + 1 : Nat) : Int) := w64_up (by have := HIL.out; have h1 := HNM.out.1; have h2 := HL.out; omega)
            have HW1 := Aside0.mk hw1
            clear hw1
            go_wp2_with (first | (go_at_call 18; refine (HPUT.out).mono ?_; rintro e w3 ⟨rfl, hs3, hb3⟩; have HS3 := Aside0.mk hs3; have HB3 := Aside0.mk hb3; clear hs3 hb3))
            go_roundg (n + 1 - (i + 1))
            case measure => have h1 := HI.out.2.1; have h2 := HIL.out; omega
            case rel => exact ⟨i + 1, skNew es false x hv, by first | rw [HW1.out] | rfl, ⟨HIL.out, rfl, HE.out.symm⟩, HS3, HGN, HB3⟩
          · have HE := Aside0.mk (show putAll l hs turn = none by rw [HST.out, HJ.out, if_neg HBG.out, if_neg he0])
            have d5 : (er == 0) = false := beq_eq_false_iff_ne.2 he0
            have d5b : (er != 0) = true := bne_iff_ne.2 he0
            have d5c : decide (er = 0) = false := decide_eq_false he0
            clear he0
            go_wp2_with (first | (go_at_call 18; refine (HPUT.out).mono ?_; rintro e w3 ⟨rfl, hs3, hb3⟩; have HB3 := Aside0.mk hb3; clear hs3 hb3))
            go_ret
            refine ⟨HB3.out, ?_⟩
            rw [HE.out]
            rfl
    · have d1 : decide ((i : Int) < (n : Int)) = false := decide_eq_false (by omega)
      have d1b : decide (i < n) = false := decide_eq_false hi
      have HE := Aside0.mk (show putAll l hs turn = some es by have h := HI.out.2.2; have e : n - i = 0 := by omega
                                                               rw [e] at h; exact h.symm)
      clear hi
      go_wp2
      go_ret
      refine ⟨HB.out, ?_⟩
      rw [HE.out]
      obtain ⟨ok, hs⟩ := HS.out
      exact ⟨g, ok, rfl, hs, HGD.out⟩
end Go.Proofs.Yteomanpaladdjaa.P
