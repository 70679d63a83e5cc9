/- How streams and texts stand in memory. No function of the program is in sight here. -/
import Derived.Test.YtlabfinhdidmaaaVals2
namespace Go.Proofs.Ytlabfinhdidmaaa
open Go.RowKit Pl

theorem map_range_get (f : Nat → BitVec 8) (n j : Nat) : ((List.range n).map f)[j]? = if j < n then some (f j) else none := by
  rw [List.getElem?_map]
  by_cases h : j < n
  · rw [List.getElem?_range h, if_pos h]; rfl
  · rw [List.getElem?_eq_none (by simp; omega), if_neg h]; rfl
theorem bl_set (l : Bs8) (i : Nat) (b : BitVec 8) : (bl l).set i (B8 b) = bl (l.set i b) := by simp [bl, List.map_set]
/-- the bytes of a stream of which the first i have been made -/
def strTo (k : Kw) (m : W64) (l : Bs8) (i : Nat) : Bs8 := (List.range l.length).map fun j => if j < i then gb l j ^^^ maskB k m j else 0#8
theorem strTo_len (k : Kw) (m : W64) (l : Bs8) (i : Nat) : (strTo k m l i).length = l.length := by simp [strTo]
theorem strTo_zero (k : Kw) (m : W64) (l : Bs8) : bl (strTo k m l 0) = List.replicate l.length (.int .u8 0) := by
  apply List.ext_getElem?
  intro j
  simp only [bl, strTo, List.getElem?_map, List.getElem?_replicate]
  by_cases h : j < l.length
  · rw [List.getElem?_range h, if_pos h]; rfl
  · rw [List.getElem?_eq_none (by simp; omega), if_neg h]; rfl
theorem strTo_all (k : Kw) (m : W64) (l : Bs8) : strTo k m l l.length = stream k m l := by
  unfold strTo stream
  refine List.map_congr_left fun j hj => ?_
  rw [if_pos (List.mem_range.1 hj)]
theorem strTo_set (k : Kw) (m : W64) (l : Bs8) {i : Nat} (h : i < l.length) : (bl (strTo k m l i)).set i (B8 (gb l i ^^^ maskB k m i)) = bl (strTo k m l (i + 1)) := by
  rw [bl_set]
  congr 1
  apply List.ext_getElem?
  intro j
  unfold strTo
  rw [List.getElem?_set, map_range_get, map_range_get, List.length_map, List.length_range]
  by_cases hj : i = j
  · subst hj; rw [if_pos rfl, if_pos h, if_pos h, if_pos (by omega)]
  · rw [if_neg hj]
    by_cases h2 : j < l.length
    · rw [if_pos h2, if_pos h2]
      by_cases h3 : j < i
      · rw [if_pos h3, if_pos (by omega)]
      · rw [if_neg h3, if_neg (by omega)]
    · rw [if_neg h2, if_neg h2]
/-- the mask that is at hand before the byte with an index -/
def maskAt (k : Kw) (m : W64) (i : Nat) : Kw := if i = 0 then (0#64, 0#64) else enc k (blk 1 (BitVec.ofNat 64 ((i - 1) / 16)) m)
theorem maskAt_zero (k : Kw) (m : W64) : kc (maskAt k m 0) = List.replicate 16 (.int .u8 0) := kc_zero
theorem maskAt_succ (k : Kw) (m : W64) (i : Nat) : maskAt k m (i + 1) = enc k (blk 1 (BitVec.ofNat 64 (i / 16)) m) := by simp [maskAt]
theorem maskAt_of (k : Kw) (m : W64) {i : Nat} (h : i % 16 ≠ 0) : maskAt k m i = enc k (blk 1 (BitVec.ofNat 64 (i / 16)) m) := by
  unfold maskAt
  rw [if_neg (by omega), show (i - 1) / 16 = i / 16 by omega]
theorem stream_step (k : Kw) (m : W64) (l : Bs8) {i j : Nat} (hj : j < 16) (h : 16 * i + j < l.length) :
    bl ((stream k m l).take (16 * i + j)) ++ [B8 (byt (xorK (portion l i) (enc k (blk 1 (BitVec.ofNat 64 i) m))) j)] = bl ((stream k m l).take (16 * i + j + 1)) := by
  rw [List.take_add_one, stream_get k m l h, bl_append, byt_xorK, byt_portion l i j hj]
  unfold maskB
  rw [show (16 * i + j) / 16 = i by omega, show (16 * i + j) % 16 = j by omega]
  rfl
end Go.Proofs.Ytlabfinhdidmaaa
