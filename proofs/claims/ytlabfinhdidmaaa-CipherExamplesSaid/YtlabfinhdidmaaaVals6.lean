/- How first parts and parts that are written over stand in memory. No function of the program is in sight here. -/
import Derived.Test.YtlabfinhdidmaaaVals5
import Derived.Test.YtlabfinhdidmaaaPlain4
namespace Go.Proofs.Ytlabfinhdidmaaa
open Go.RowKit Pl
theorem rd_take {w : World} {a : Option Addr} {l : Bs8} (h : Rd w a (bl l)) (n : Nat) : Rd w a (bl (l.take n)) := fun j u hu => h j u (by
  rw [bl_take, List.getElem?_take] at hu
  split at hu
  · exact hu
  · cases hu)
/-- bytes of a block are written over a portion, one by one -/
def pst (cur : List Value) (q : Nat) (p : Kw) : Nat → List Value
  | 0 => cur
  | j + 1 => (pst cur q p j).set (16 * q + j) (B8 (byt p j))
theorem pst_len (cur : List Value) (q : Nat) (p : Kw) : ∀ j, (pst cur q p j).length = cur.length
  | 0 => rfl
  | j + 1 => by rw [pst, List.length_set, pst_len cur q p j]
theorem pst_get {cur : List Value} {l : Bs8} (q : Nat) (p : Kw) (ht : cur.take l.length = bl l) (hc : l.length ≤ cur.length) : ∀ j i, i < l.length → (pst cur q p j)[i]? = some (B8 (if 16 * q ≤ i ∧ i < 16 * q + j then byt p (i - 16 * q) else gb l i))
  | 0, i, hi => by
    rw [if_neg (by omega)]
    exact take_get ht (bl_get (gb_get hi))
  | j + 1, i, hi => by
    rw [pst, List.getElem?_set, pst_len, pst_get q p ht hc j i hi]
    by_cases e : 16 * q + j = i
    · rw [if_pos e, if_pos (by omega), if_pos (by omega), show i - 16 * q = j by omega]
    · rw [if_neg e]
      by_cases h2 : 16 * q ≤ i ∧ i < 16 * q + j
      · rw [if_pos h2, if_pos (by omega)]
      · rw [if_neg h2, if_neg (by omega)]
theorem pst_take {cur : List Value} {l : Bs8} {q : Nat} {p : Kw} {j : Nat} (ht : cur.take l.length = bl l) (hc : l.length ≤ cur.length) (hj : j ≤ 16) (he : j = 16 ∨ l.length ≤ 16 * q + j) : (pst cur q p j).take l.length = bl (repl l q p) := by
  apply List.ext_getElem?
  intro i
  by_cases hi : i < l.length
  · rw [List.getElem?_take, if_pos hi, pst_get q p ht hc j i hi, bl_get (gb_get (by rw [repl_len]; exact hi)), gb_repl l q p hi]
    by_cases h2 : 16 * q ≤ i ∧ i < 16 * q + j
    · rw [if_pos h2, if_pos (by omega)]
    · rw [if_neg h2, if_neg (by omega)]
  · rw [List.getElem?_take, if_neg hi, List.getElem?_eq_none (by rw [bl_len, repl_len]; omega)]
end Go.Proofs.Ytlabfinhdidmaaa
