/- crc.More and the reference's More come to the sum of chapter 5 on bit vectors. No conditions. -/
import Derived.Test.YtliafeandefocaaCrcSpec
import Derived.Test.YtliafeandefocaaPcrcMore
import Derived.Test.YtliafeandefocaaPrickyardref05More
namespace Go.Proofs.Ytliafeandefocaa.P
open Go.RowKit Go.Proofs.YtliafeandefocaaW.PrintWords Go.Proofs.YtliafeandefocaaW.PrintLast Go.Proofs.YtliafeandefocaaW.PrintMore
set_option linter.unusedVariables false
set_option linter.unusedSimpArgs false

theorem wrap_up {i : Int} (h0 : 0 ≤ i) (h : i < 9223372036854775807) : wrap64 (i + 1) = i + 1 := by unfold wrap64; omega

theorem crcMore_l1 (l : List Int) (n x13 : Int) (d : Nat) : ∀ (k : Nat) (c : BitVec 32) (j : Int), 0 ≤ j → j + d = 8 →
    crc_More.l1 (k + d + 1) (bvi c) l n x13 j = crc_More.l0 k (bvi (cstepN d c)) l n (wrap64 (x13 + 1)) := by
  induction d with
  | zero =>
    intro k c j h0 h8
    rw [show k + 0 + 1 = k + 1 from rfl]
    rw [crc_More.l1]
    rw [if_neg (by omega)]
    rfl
  | succ d ih =>
    intro k c j h0 h8
    rw [show k + (d + 1) + 1 = (k + d + 1) + 1 from rfl]
    rw [crc_More.l1]
    rw [if_pos (by omega), wrap_up h0 (by omega)]
    by_cases hb : c.getLsbD 0 = true
    · rw [if_pos ((and_one c).2 hb), bvi_half, xor_poly, ih k _ (j + 1) (by omega) (by omega)]
      simp only [cstepN, cstep, hb, if_true]
    · rw [if_neg (fun h => hb ((and_one c).1 h)), bvi_half, ih k _ (j + 1) (by omega) (by omega)]
      simp only [cstepN, cstep, hb, if_false]
      rfl

theorem crcMore_l0 (l : List Int) (hl : l.length ≤ 9223372036854775807) (d : Nat) : ∀ (k : Nat) (c : BitVec 32) (i : Nat), i + d = l.length →
    crc_More.l0 (k + 10 * d + 1) (bvi c) l l.length i = some (bvi (~~~ (cfold c (l.drop i)))) := by
  induction d with
  | zero =>
    intro k c i hi
    rw [crc_More.l0]
    rw [if_neg (by omega), bits_not_u32, ofInt_bvi, List.drop_of_length_le (by omega)]
    rfl
  | succ d ih =>
    intro k c i hi
    have hlt : i < l.length := by omega
    rw [show k + 10 * (d + 1) + 1 = (k + 10 * d + 1 + 8 + 1) + 1 from by omega]
    rw [crc_More.l0]
    rw [if_pos (by omega), if_pos (by omega), if_pos (by omega), bits_xor_u32, ofInt_bvi, ofInt_mod, crcMore_l1 l _ _ 8 _ _ 0 (by omega) (by omega), wrap_up (by omega) (by omega)]
    rw [show ((i : Int) + 1) = ((i + 1 : Nat) : Int) from by omega, ih _ _ (i + 1) (by omega)]
    rw [List.drop_eq_getElem_cons hlt, cfold_cons]
    simp only [cupd, rd, Int.toNat_natCast, List.getD_eq_getElem?_getD, List.getElem?_eq_getElem hlt, Option.getD_some]

theorem crcMore_f (s : Int) (l : List Int) (hl : l.length ≤ 9223372036854775807) : ∃ k, crc_More.f k s l = some (bvi (cmore (BitVec.ofInt 32 s) l)) := by
  refine ⟨0 + 10 * l.length + 1, ?_⟩
  unfold crc_More.f
  rw [bits_not_u32, show ((0 : Int)) = ((0 : Nat) : Int) from rfl, crcMore_l0 l hl l.length 0 _ 0 (by omega)]
  rfl

theorem refstep_l0 (d : Nat) : ∀ (k : Nat) (c : BitVec 32) (j : Int), 0 ≤ j → j + d = 8 → rickyardref05_step.l0 (k + d + 1) (bvi c) j = some (bvi (cstepN d c)) := by
  induction d with
  | zero =>
    intro k c j h0 h8
    rw [show k + 0 + 1 = k + 1 from rfl]
    rw [rickyardref05_step.l0]
    rw [if_neg (by omega)]
    rfl
  | succ d ih =>
    intro k c j h0 h8
    rw [show k + (d + 1) + 1 = (k + d + 1) + 1 from rfl]
    rw [rickyardref05_step.l0]
    rw [if_pos (by omega), wrap_up h0 (by omega), tmod_two, tdiv_two]
    by_cases hb : c.getLsbD 0 = true
    · rw [if_pos ((bvi_odd c).2 hb), xor_poly, ih k _ (j + 1) (by omega) (by omega)]
      simp only [cstepN, cstep, hb, if_true]
    · rw [if_neg (fun h => hb ((bvi_odd c).1 h)), ih k _ (j + 1) (by omega) (by omega)]
      simp only [cstepN, cstep, hb, if_false]
      rfl

theorem refstep_f (k : Nat) (c : BitVec 32) (x : Int) : rickyardref05_step.f (k + 9) (bvi c) x = some (bvi (cupd c x)) := by
  unfold rickyardref05_step.f
  rw [bits_xor_u32, ofInt_bvi, ofInt_mod, show k + 9 = k + 8 + 1 from rfl, refstep_l0 8 k _ 0 (by omega) (by omega)]
  rfl

theorem refMore_l0 (l : List Int) (hl : l.length ≤ 9223372036854775807) (d : Nat) : ∀ (k : Nat) (c : BitVec 32) (i : Nat), i + d = l.length →
    rickyardref05_More.l0 (k + d + 10) l (bvi c) i = some (bvi (~~~ (cfold c (l.drop i)))) := by
  induction d with
  | zero =>
    intro k c i hi
    rw [show k + 0 + 10 = k + 9 + 1 from rfl]
    rw [rickyardref05_More.l0]
    rw [if_neg (by omega), sub_not_u32, ofInt_bvi, List.drop_of_length_le (by omega)]
    rfl
  | succ d ih =>
    intro k c i hi
    have hlt : i < l.length := by omega
    rw [show k + (d + 1) + 10 = (k + d + 1 + 9) + 1 from by omega]
    rw [rickyardref05_More.l0]
    rw [if_pos (by omega), if_pos (by omega), refstep_f, wrap_up (by omega) (by omega)]
    simp only [Option.bind_some]
    rw [show ((i : Int) + 1) = ((i + 1 : Nat) : Int) from by omega, show k + d + 1 + 9 = k + d + 10 from rfl, ih _ _ (i + 1) (by omega)]
    rw [List.drop_eq_getElem_cons hlt, cfold_cons]
    simp only [cupd, rd, Int.toNat_natCast, List.getD_eq_getElem?_getD, List.getElem?_eq_getElem hlt, Option.getD_some]

theorem refMore_f (s : Int) (l : List Int) (hl : l.length ≤ 9223372036854775807) : ∃ k, rickyardref05_More.f k s l = some (bvi (cmore (BitVec.ofInt 32 s) l)) := by
  refine ⟨0 + l.length + 10, ?_⟩
  unfold rickyardref05_More.f
  rw [sub_not_u32, show ((0 : Int)) = ((0 : Nat) : Int) from rfl, refMore_l0 l hl l.length 0 _ 0 (by omega)]
  rfl

def cMore.f (s : Int) (l : List Int) : Option Int := some (bvi (cmore (BitVec.ofInt 32 s) l))
def rMore.f (s : Int) (l : List Int) : Option Int := some (bvi (cmore (BitVec.ofInt 32 s) l))
theorem cMore.calls (a0 : Int) (A1 : Option Addr) (c1 : Nat) (l1 : List Int) (r : Int) (w : World) (hr1 : Kd.C (Kd.int .u8) w A1 l1.length l1) (hc1 : l1.length ≤ c1) (h : cMore.f a0 l1 = some r) :
    Calls Try.prog 28 #[.int .u32 a0, .slice A1 l1.length c1] w fun e w' => e = .returned (.int .u32 r) ∧ Drawn0 w w' := by
  obtain ⟨k, hk⟩ := crcMore_f a0 l1 hr1.2.1
  exact crc_More.calls k a0 A1 c1 l1 r w hr1 hc1 (hk.trans h)
theorem rMore.calls (a0 : Int) (A1 : Option Addr) (c1 : Nat) (l1 : List Int) (r : Int) (w : World) (hr1 : Kd.C (Kd.int .u8) w A1 l1.length l1) (hc1 : l1.length ≤ c1) (h : rMore.f a0 l1 = some r) :
    Calls Try.prog 31 #[.int .u32 a0, .slice A1 l1.length c1] w fun e w' => e = .returned (.int .u32 r) ∧ Drawn0 w w' := by
  obtain ⟨k, hk⟩ := refMore_f a0 l1 hr1.2.1
  exact rickyardref05_More.calls k a0 A1 c1 l1 r w hr1 hc1 (hk.trans h)

end Go.Proofs.Ytliafeandefocaa.P
