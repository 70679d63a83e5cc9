/- How a mask's block stands in memory while it is laid byte by byte. No function of the program is in sight here. -/
import Derived.Test.YtlabfinhdidmaaaVals6
namespace Go.Proofs.Ytlabfinhdidmaaa
open Go.RowKit Pl
def mskA (q i x : Nat) : BitVec 8 := if x = 0 then 1#8 else if 8 - i ≤ x ∧ x < 8 then BitVec.ofNat 8 (q / 16 / 2 ^ (8 * (7 - x))) else 0#8
def mskB (q : Nat) (m : W64) (i x : Nat) : BitVec 8 := if 16 - i ≤ x then (m >>> (8 * (15 - x))).setWidth 8 else mskA q 4 x
theorem mskA_zero (q : Nat) : (List.replicate 16 (Value.int .u8 0)).set 0 (B8 1#8) = kcf (mskA q 0) := by
  rw [← kcf_zero, kcf_set]
  refine kcf_congr fun x hx => ?_
  unfold mskA
  by_cases h : x = 0
  · rw [if_pos h, if_pos h]
  · rw [if_neg h, if_neg h, if_neg (by omega)]; rfl
theorem mskA_set (q : Nat) {i : Nat} (hi : i < 4) : (kcf (mskA q i)).set (7 - i) (B8 (BitVec.ofNat 8 (q / 16 / 2 ^ (8 * i)))) = kcf (mskA q (i + 1)) := by
  rw [kcf_set]
  refine kcf_congr fun x hx => ?_
  unfold mskA
  by_cases h : x = 7 - i
  · rw [if_pos h, if_neg (by omega), if_pos (by omega), show 7 - x = i by omega]
  · rw [if_neg h]
    by_cases h0 : x = 0
    · rw [if_pos h0, if_pos h0]
    · rw [if_neg h0, if_neg h0]
      by_cases h1 : 8 - i ≤ x ∧ x < 8
      · rw [if_pos h1, if_pos (by omega)]
      · rw [if_neg h1, if_neg (by omega)]
theorem mskB_zero (q : Nat) (m : W64) : kcf (mskA q 4) = kcf (mskB q m 0) := kcf_congr fun x hx => by
  unfold mskB
  rw [if_neg (by omega)]
theorem mskB_set (q : Nat) (m : W64) {i : Nat} (hi : i < 8) : (kcf (mskB q m i)).set (15 - i) (B8 ((m >>> (8 * i)).setWidth 8)) = kcf (mskB q m (i + 1)) := by
  rw [kcf_set]
  refine kcf_congr fun x hx => ?_
  unfold mskB
  by_cases h : x = 15 - i
  · rw [if_pos h, if_pos (by omega), show 15 - x = i by omega]
  · rw [if_neg h]
    by_cases h1 : 16 - i ≤ x
    · rw [if_pos h1, if_pos (by omega)]
    · rw [if_neg h1, if_neg (by omega)]
theorem mskB_all (q : Nat) (m : W64) (hq : q < 65536) : kcf (mskB q m 8) = kc (blk 1 (BitVec.ofNat 64 (q / 16)) m) := kcf_congr fun x hx => by
  have h := blk_list 1 (BitVec.ofNat 64 (q / 16)) m (by rw [BitVec.toNat_ofNat]; omega) x hx
  have e : ∀ s, (BitVec.ofNat 64 (q / 16) >>> s).setWidth 8 = BitVec.ofNat 8 (q / 16 / 2 ^ s) := fun s => by
    apply BitVec.eq_of_toNat_eq
    rw [BitVec.toNat_setWidth, BitVec.toNat_ushiftRight, BitVec.toNat_ofNat, BitVec.toNat_ofNat, Nat.mod_eq_of_lt (by omega : q / 16 < 2 ^ 64), Nat.shiftRight_eq_div_pow]
  unfold mskB
  by_cases h8 : 16 - 8 ≤ x
  · rw [if_pos h8]
    rw [List.getElem?_append_right (by simp [lowB_len]; omega)] at h
    simp only [List.length_append, List.length_cons, List.length_nil, lowB_len] at h
    rw [lowB_get _ 8 _ (by omega), show 8 - 1 - (x - (0 + 1 + 7)) = 15 - x by omega] at h
    injection h
  · rw [if_neg h8]
    rw [List.getElem?_append_left (by simp [lowB_len]; omega)] at h
    unfold mskA
    by_cases h0 : x = 0
    · subst h0; rw [if_pos rfl]; simpa using h
    · rw [if_neg h0]
      rw [List.getElem?_append_right (by simp; omega)] at h
      simp only [List.length_cons, List.length_nil] at h
      rw [lowB_get _ 7 _ (by omega), show 7 - 1 - (x - (0 + 1)) = 7 - x by omega, e] at h
      injection h with h
      by_cases h4 : 8 - 4 ≤ x ∧ x < 8
      · rw [if_pos h4]; exact h
      · rw [if_neg h4, ← h]
        have : q / 16 / 2 ^ (8 * (7 - x)) = 0 := Nat.div_eq_of_lt (Nat.lt_of_lt_of_le (show q / 16 < 2 ^ 32 by omega) (Nat.pow_le_pow_right (by decide) (by omega)))
        rw [this]
theorem ex_pad : (kc (0#64, 0#64)).set 0 (B8 128#8) = kc (blk 128 0 0#64) := by kernel_rfl
theorem zeros_len : (List.replicate 16385 (0#8 : BitVec 8)).length = 16385 := List.length_replicate
theorem zeros_bl : List.replicate 16385 (Value.int .u8 0) = bl (List.replicate 16385 0#8) := by unfold bl; rw [List.map_replicate]; rfl
theorem zeros_rd : ((List.replicate 16385 (Value.int .u8 0)).drop 0).take 16385 = bl (List.replicate 16385 0#8) := by
  rw [List.drop_zero, List.take_of_length_le (by rw [List.length_replicate]; exact Nat.le_refl _), zeros_bl]
end Go.Proofs.Ytlabfinhdidmaaa
