/- How keys and pairs of words stand in memory. -/
import Derived.Test.YtoegpalacppllaaWalk
import Derived.Test.YtoegpalacppllaaPlain
namespace Go.Proofs.Ytoegpalacppllaa
open Pl

abbrev B8 (x : BitVec 8) : Value := .int .u8 (x.toNat : Int)
abbrev U64 (x : BitVec 64) : Value := .int .u64 (x.toNat : Int)
abbrev I (n : Nat) : Value := .int .i64 (n : Int)

/-- the cells of a key -/
def kcf (f : Nat → BitVec 8) : List Value := (List.range 16).map fun i => B8 (f i)
def kc (k : Kw) : List Value := kcf (byt k)
def keyV (k : Kw) : Value := .agg (kc k).toArray
def pairV (p : Kw) : Value := .agg [U64 p.1, U64 p.2].toArray

theorem kcf_len (f : Nat → BitVec 8) : (kcf f).length = 16 := by simp [kcf]
theorem kc_len (k : Kw) : (kc k).length = 16 := kcf_len _
theorem kcf_get (f : Nat → BitVec 8) (i : Nat) (h : i < 16) : (kcf f)[i]? = some (B8 (f i)) := by
  simp [kcf, h]
theorem kc_get (k : Kw) (i : Nat) (h : i < 16) : (kc k)[i]? = some (B8 (byt k i)) := kcf_get _ i h
theorem kcf_one (f : Nat → BitVec 8) : ∀ v ∈ kcf f, v.oneCell' = true := by
  intro v hv
  obtain ⟨i, _, rfl⟩ := List.mem_map.1 hv
  rfl
theorem kc_one (k : Kw) : ∀ v ∈ kc k, v.oneCell' = true := by
  intro v hv
  obtain ⟨i, _, rfl⟩ := List.mem_map.1 hv
  rfl
theorem kcf_congr {f g : Nat → BitVec 8} (h : ∀ i, i < 16 → f i = g i) : kcf f = kcf g := by
  unfold kcf
  apply List.map_congr_left
  intro i hi
  rw [h i (List.mem_range.1 hi)]
theorem kcf_set (f : Nat → BitVec 8) (i : Nat) (x : BitVec 8) : (kcf f).set i (B8 x) = kcf (fun j => if j = i then x else f j) := by
  apply List.ext_getElem?
  intro j
  rw [List.getElem?_set, kcf_len]
  by_cases hj : j < 16
  · rw [kcf_get _ j hj, kcf_get _ j hj]
    by_cases hij : i = j
    · subst hij; simp [hj]
    · have : ¬ j = i := fun e => hij e.symm
      simp [hij, this]
  · have h1 : (kcf f)[j]? = none := by rw [List.getElem?_eq_none]; rw [kcf_len]; omega
    have h2 : (kcf (fun j => if j = i then x else f j))[j]? = none := by rw [List.getElem?_eq_none]; rw [kcf_len]; omega
    rw [h1, h2]
    split
    · split
      · omega
      · rfl
    · rfl
theorem kcf_packK (f : Nat → BitVec 8) : kcf f = kc (packK f) := kcf_congr fun i hi => (byt_packK f i hi).symm
theorem kc_inj {a b : Kw} (h : kc a = kc b) : a = b := by
  apply ext_byt
  intro i hi
  have h1 := kc_get a i hi
  rw [h, kc_get b i hi] at h1
  simp at h1
  exact (BitVec.eq_of_toNat_eq (by omega)).symm
theorem kcf_zero : kcf (fun _ => 0) = List.replicate 16 (.int .u8 0) := by rfl
theorem bst_zero (p : Kw) : kcf (bstf p 0) = List.replicate 16 (.int .u8 0) := by
  rw [← kcf_zero]; exact kcf_congr fun i _ => by simp [bstf]
theorem bst_eight (p : Kw) : kcf (bstf p 8) = kc p := kcf_congr fun i _ => by
  have : i % 8 < 8 := Nat.mod_lt _ (by decide)
  simp [bstf, this]
theorem bst_step (p : Kw) (i : Nat) (h : i < 8) : ((kcf (bstf p i)).set i (B8 ((p.1 >>> (56 - 8 * i)).setWidth 8))).set (8 + i) (B8 ((p.2 >>> (56 - 8 * i)).setWidth 8)) = kcf (bstf p (i + 1)) := by
  rw [kcf_set, kcf_set]
  refine kcf_congr fun j hj => ?_
  unfold bstf
  by_cases h1 : j = 8 + i
  · subst h1
    have e1 : (8 + i) % 8 < i + 1 := by omega
    have e2 : 8 + i - 8 = i := by omega
    rw [if_pos rfl, if_pos e1]
    unfold byt
    rw [if_neg (by omega), e2]
  · rw [if_neg h1]
    by_cases h2 : j = i
    · subst h2
      have e1 : j % 8 < j + 1 := by omega
      rw [if_pos rfl, if_pos e1]
      unfold byt
      rw [if_pos h]
    · rw [if_neg h2]
      by_cases h3 : j % 8 < i
      · rw [if_pos h3, if_pos (by omega)]
      · rw [if_neg h3, if_neg (by omega)]
theorem keyV_inj {a b : Kw} (h : keyV a = keyV b) : a = b := by
  unfold keyV at h
  injection h with h
  exact kc_inj (by simpa using congrArg Array.toList h)
/-- bytes, as cells -/
def bl (l : List (BitVec 8)) : List Value := l.map fun x => B8 x
theorem bl_len (l : List (BitVec 8)) : (bl l).length = l.length := by simp [bl]
theorem bl_one (l : List (BitVec 8)) : ∀ v ∈ bl l, v.oneCell' = true := by
  intro v hv
  obtain ⟨i, _, rfl⟩ := List.mem_map.1 hv
  rfl
theorem bl_get {l : List (BitVec 8)} {j : Nat} {x : BitVec 8} (h : l[j]? = some x) : (bl l)[j]? = some (B8 x) := by simp [bl, h]
theorem bl_append (l m : List (BitVec 8)) : bl (l ++ m) = bl l ++ bl m := by simp [bl]
/-- words, as cells -/
def wl (f : Nat → W64) (n : Nat) : List Value := (List.range n).map fun i => U64 (f i)
theorem wl_len (f : Nat → W64) (n : Nat) : (wl f n).length = n := by simp [wl]
theorem wl_get (f : Nat → W64) {n j : Nat} (h : j < n) : (wl f n)[j]? = some (U64 (f j)) := by simp [wl, h]
theorem wl_succ (f : Nat → W64) (n : Nat) : wl f n ++ [U64 (f n)] = wl f (n + 1) := by simp [wl, List.range_succ]
/-- the first n bytes, then zeroes -/
def upto (f : Nat → BitVec 8) (n j : Nat) : BitVec 8 := if j < n then f j else 0
theorem upto_zero (f : Nat → BitVec 8) : kcf (upto f 0) = List.replicate 16 (.int .u8 0) := by
  rw [← kcf_zero]; exact kcf_congr fun i _ => by simp [upto]
theorem upto_set (f : Nat → BitVec 8) (k : Nat) : (kcf (upto f k)).set k (B8 (f k)) = kcf (upto f (k + 1)) := by
  rw [kcf_set]
  refine kcf_congr fun j _ => ?_
  unfold upto
  by_cases h : j = k
  · subst h; simp
  · by_cases h2 : j < k
    · rw [if_neg h, if_pos h2, if_pos (by omega)]
    · rw [if_neg h, if_neg h2, if_neg (by omega)]
theorem upto_fin (f : Nat → BitVec 8) {k n : Nat} (h : k = n ∨ k = 16 ∧ k ≤ n) : Value.agg (kcf (upto f k)).toArray = keyV (packK (upto f n)) := by
  rw [keyV, ← kcf_packK]
  congr 2
  refine kcf_congr fun j hj => ?_
  unfold upto
  by_cases h1 : j < k
  · rw [if_pos h1, if_pos (by omega)]
  · rw [if_neg h1, if_neg (by omega)]
theorem packK_congr {f g : Nat → BitVec 8} (h : ∀ i, i < 16 → f i = g i) : packK f = packK g := by
  apply ext_byt
  intro i hi
  rw [byt_packK f i hi, byt_packK g i hi, h i hi]
theorem packK_byt' (k : Kw) {f : Nat → BitVec 8} (h : ∀ i, i < 16 → f i = byt k i) : packK f = k := by
  rw [packK_congr h, packK_byt]
theorem upto16 (p : Kw) : packK (upto (byt p) 16) = p := packK_byt' p fun i hi => by unfold upto; rw [if_pos hi]
theorem bl_byt (p : Kw) (j : Nat) (h : j < 16) : (bl (lowB p.1 8) ++ bl (lowB p.2 8))[j]? = some (B8 (byt p j)) := by
  rw [← bl_append]; exact bl_get (lowB_byt p j h)
/-- 32 words of which the first n are there -/
def wu (f : Nat → W64) (n : Nat) : List Value := (List.range 32).map fun j => if j < n then U64 (f j) else .int .u64 0
theorem wu_len (f : Nat → W64) (n : Nat) : (wu f n).length = 32 := by simp [wu]
theorem wu_zero (f : Nat → W64) : wu f 0 = List.replicate 32 (.int .u64 0) := by rfl
theorem wu_get (f : Nat → W64) {j : Nat} (h : j < 32) : (wu f 32)[j]? = some (U64 (f j)) := by simp [wu, h]
theorem wu_set (f : Nat → W64) (i : Nat) : (wu f i).set i (U64 (f i)) = wu f (i + 1) := by
  apply List.ext_getElem?
  intro j
  rw [List.getElem?_set, wu_len]
  by_cases hj : j < 32
  · by_cases hij : i = j
    · subst hij; simp [wu, hj]
    · rw [if_neg hij]
      simp only [wu, List.getElem?_map, List.getElem?_range hj, Option.map_some, Option.some.injEq]
      by_cases h2 : j < i
      · rw [if_pos h2, if_pos (by omega)]
      · rw [if_neg h2, if_neg (by omega)]
  · have h1 : (wu f i)[j]? = none := by rw [List.getElem?_eq_none]; rw [wu_len]; omega
    have h2 : (wu f (i + 1))[j]? = none := by rw [List.getElem?_eq_none]; rw [wu_len]; omega
    rw [h1, h2]
    split
    · split
      · omega
      · rfl
    · rfl
end Go.Proofs.Ytoegpalacppllaa
