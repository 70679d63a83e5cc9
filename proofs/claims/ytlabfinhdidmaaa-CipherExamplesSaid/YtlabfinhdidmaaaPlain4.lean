/- Plain laws: a MAC tells portions apart; a first part. No program is in sight here. -/
import Derived.Test.YtlabfinhdidmaaaPlain3
namespace Go.Proofs.Ytlabfinhdidmaaa.Pl
theorem first_len (l : Bs8) (n : Nat) : l.take n = l.take (l.take n).length := by
  rw [List.length_take]
  rcases Nat.le_total n l.length with h | h
  · rw [Nat.min_eq_left h]
  · rw [Nat.min_eq_right h, List.take_of_length_le h, List.take_of_length_le (Nat.le_refl _)]
/-- one portion is written over -/
def repl (l : Bs8) (q : Nat) (p : Kw) : Bs8 := (List.range l.length).map fun i => if 16 * q ≤ i ∧ i < 16 * q + 16 then byt p (i - 16 * q) else gb l i
theorem repl_len (l : Bs8) (q : Nat) (p : Kw) : (repl l q p).length = l.length := by simp [repl]
theorem gb_repl (l : Bs8) (q : Nat) (p : Kw) {i : Nat} (h : i < l.length) : gb (repl l q p) i = if 16 * q ≤ i ∧ i < 16 * q + 16 then byt p (i - 16 * q) else gb l i := by
  have h1 : (repl l q p)[i]? = some (gb (repl l q p) i) := gb_get (by rw [repl_len]; exact h)
  unfold repl at h1 ⊢
  rw [List.getElem?_map, List.getElem?_range h] at h1
  injection h1 with h1
  exact h1.symm
theorem portion_repl (l : Bs8) (q : Nat) (p : Kw) {i : Nat} (h : i ≠ q) : portion (repl l q p) i = portion l i := packK_ext fun j hj => by
  by_cases h1 : 16 * i + j < l.length
  · rw [gb_repl l q p h1, if_neg (by omega)]
  · rw [gb_out (by rw [repl_len]; omega), gb_out (by omega)]
theorem repl_same {l : Bs8} {q : Nat} {p : Kw} (h : portion l q = portion (repl l q p) q) : l = repl l q p := by
  apply List.ext_getElem?
  intro i
  by_cases hi : i < l.length
  · rw [gb_get hi, gb_get (by rw [repl_len]; exact hi)]
    by_cases hq : 16 * q ≤ i ∧ i < 16 * q + 16
    · have h1 := byt_portion l q (i - 16 * q) (by omega)
      have h2 := byt_portion (repl l q p) q (i - 16 * q) (by omega)
      rw [h, h2] at h1
      rw [show 16 * q + (i - 16 * q) = i by omega] at h1
      rw [h1]
    · rw [gb_repl l q p hi, if_neg hq]
  · rw [List.getElem?_eq_none (by omega), List.getElem?_eq_none (by rw [repl_len]; omega)]
theorem foldTo_same {step : Kw → Kw → Kw} {s : Kw} {l m : Bs8} : ∀ n, (∀ i, i < n → portion l i = portion m i) → foldTo step s l n = foldTo step s m n
  | 0, _ => rfl
  | n + 1, h => by rw [foldTo, foldTo, foldTo_same n fun i hi => h i (by omega), h n (by omega)]
theorem foldTo_apart {k s : Kw} {l m : Bs8} {q : Nat} (h : ∀ i, i ≠ q → portion l i = portion m i) : ∀ n, q < n → foldTo (macStep k) s l n = foldTo (macStep k) s m n → portion l q = portion m q
  | 0, hq, _ => by omega
  | n + 1, hq, he => by
    rw [foldTo, foldTo] at he
    have he := enc_inj k he
    by_cases hn : n = q
    · subst hn
      rw [foldTo_same n fun i hi => h i (by omega)] at he
      exact xorK_inj he
    · rw [h n hn] at he
      rw [xorK_comm _ (portion m n), xorK_comm _ (portion m n)] at he
      exact foldTo_apart h n (by omega) (xorK_inj he)
theorem mac_repl (k : Kw) (l : Bs8) (p : Kw) {q : Nat} (hq : q < nport l.length) : mac k l = mac k (repl l q p) ↔ l = repl l q p := by
  constructor
  · intro h
    unfold mac foldK at h
    rw [repl_len] at h
    exact repl_same (foldTo_apart (fun i hi => (portion_repl l q p hi).symm) _ hq h)
  · intro h; rw [← h]
theorem maskB_xor (k : Kw) (m : W64) (l l2 : Bs8) {i : Nat} (h : i < l.length) (h2 : i < l2.length) : gb (stream k m l) i ^^^ gb (stream k m l2) i = gb l i ^^^ gb l2 i := by
  rw [gb_stream k m l h, gb_stream k m l2 h2, BitVec.xor_assoc, ← BitVec.xor_assoc (maskB k m i), BitVec.xor_comm (maskB k m i), BitVec.xor_assoc, BitVec.xor_self, BitVec.xor_zero]
theorem mask_of (k : Kw) (m : W64) (l : Bs8) {i : Nat} (h : i < l.length) : gb (stream k m l) i ^^^ gb l i = maskB k m i := by
  rw [gb_stream k m l h, BitVec.xor_comm, ← BitVec.xor_assoc, BitVec.xor_self, BitVec.zero_xor]
end Go.Proofs.Ytlabfinhdidmaaa.Pl
