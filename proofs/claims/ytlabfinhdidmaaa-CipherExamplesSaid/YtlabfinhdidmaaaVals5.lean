/- How portions stand in memory, all in one row. No function of the program is in sight here. -/
import Derived.Test.YtlabfinhdidmaaaVals4
import Derived.Test.YtlabfinhdidmaaaKnown
import Derived.Test.YtlabfinhdidmaaaPlain3
import Derived.Test.YtlabfinhdidmaaaMore2
namespace Go.Proofs.Ytlabfinhdidmaaa
open Go.RowKit Pl

/-- n portions of which the first i bytes have been laid -/
def pcs (l : Bs8) (n i : Nat) : List Value := bl ((List.range (n * 16)).map fun q => if q < i then gb l q else 0#8)
theorem pcs_len (l : Bs8) (n i : Nat) : (pcs l n i).length = n * 16 := by simp [pcs, bl]
theorem pcs_get (l : Bs8) (n i : Nat) {q : Nat} (h : q < n * 16) : (pcs l n i)[q]? = some (B8 (if q < i then gb l q else 0#8)) := by
  unfold pcs bl
  rw [List.getElem?_map, map_range_get, if_pos h]; rfl
theorem pcs_zero (l : Bs8) (n : Nat) : pcs l n 0 = List.replicate (n * 16) (.int .u8 0) := by
  apply List.ext_getElem?
  intro q
  by_cases h : q < n * 16
  · rw [pcs_get l n 0 h, List.getElem?_replicate, if_pos h]; rfl
  · rw [List.getElem?_eq_none (by rw [pcs_len]; omega), List.getElem?_replicate, if_neg h]
theorem pcs_set (l : Bs8) (n : Nat) {i : Nat} (h : i < n * 16) : (pcs l n i).set i (B8 (gb l i)) = pcs l n (i + 1) := by
  apply List.ext_getElem?
  intro q
  rw [List.getElem?_set, pcs_len]
  by_cases hq : q < n * 16
  · rw [pcs_get l n i hq, pcs_get l n (i + 1) hq]
    by_cases e : i = q
    · subst e; rw [if_pos rfl, if_pos h, if_pos (by omega)]
    · rw [if_neg e]
      by_cases h2 : q < i
      · rw [if_pos h2, if_pos (by omega)]
      · rw [if_neg h2, if_neg (by omega)]
  · rw [if_neg (by omega), List.getElem?_eq_none (by rw [pcs_len]; omega), List.getElem?_eq_none (by rw [pcs_len]; omega)]
theorem pcs_at (l : Bs8) (n : Nat) {i : Nat} (h : i < n) : ((pcs l n l.length).drop (i * 16)).take 16 = kc (portion l i) := by
  apply List.ext_getElem?
  intro q
  by_cases hq : q < 16
  · rw [List.getElem?_take, if_pos hq, List.getElem?_drop, pcs_get l n _ (by omega), kc_get _ q hq, byt_portion l i q hq]
    have e : i * 16 + q = 16 * i + q := by omega
    rw [e]
    by_cases h2 : 16 * i + q < l.length
    · rw [if_pos h2]
    · rw [if_neg h2, gb_out (by omega)]
  · rw [List.getElem?_take, if_neg hq, List.getElem?_eq_none (by rw [kc_len]; omega)]
theorem ex_cells : (((kc (0#64, 0#64)).set 0 (B8 7#8)).set 14 (B8 1#8)).set 15 (B8 2#8) = kc (blk 7 0 258#64) := by kernel_rfl
theorem pcs_at0 (l : Bs8) (n : Nat) {i : Nat} (h : i < n) : ((pcs l n l.length).drop (0 + i * 16)).take 16 = kc (portion l i) := by rw [Nat.zero_add]; exact pcs_at l n h
theorem padL_succ (l : Bs8) (j : Nat) : bl (l ++ padTo j) ++ [B8 0#8] = bl (l ++ padTo (j + 1)) := by
  rw [← padTo_succ, ← List.append_assoc, bl_append (l ++ padTo j)]; rfl
theorem padL_all (l : Bs8) (hl : l.length ≤ 16384) : bl (l ++ padTo (zc l.length)) ++ [.int .u8 0, .int .u8 0, .int .u8 0, .int .u8 0, .int .u8 0, .int .u8 0, B8 (BitVec.ofNat 8 (l.length / 2 ^ 8)), B8 (BitVec.ofNat 8 l.length)] = bl (l ++ pad l.length) := by
  rw [pad, ← List.append_assoc, bl_append (l ++ padTo _), lowB_small _ (by omega)]; rfl
end Go.Proofs.Ytlabfinhdidmaaa
