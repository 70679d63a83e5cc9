/- Plain laws of streams, digests, MACs and texts. No program is in sight here. -/
import Derived.Test.YtoegpalacppllaaPlain
namespace Go.Proofs.Ytoegpalacppllaa.Pl

abbrev Bs8 := List (BitVec 8)
def gb (l : Bs8) (j : Nat) : BitVec 8 := l.getD j 0#8
theorem gb_get {l : Bs8} {j : Nat} (h : j < l.length) : l[j]? = some (gb l j) := by simp [gb, h]
theorem gb_out {l : Bs8} {j : Nat} (h : l.length ≤ j) : gb l j = 0#8 := by simp [gb, List.getElem?_eq_none h]
/-- the portion with an index, filled up -/
def portion (l : Bs8) (i : Nat) : Kw := packK fun j => gb l (16 * i + j)
def nport (n : Nat) : Nat := (n + 15) / 16
def foldTo (step : Kw → Kw → Kw) (s : Kw) (l : Bs8) : Nat → Kw
  | 0 => s
  | i + 1 => step (foldTo step s l i) (portion l i)
def foldK (step : Kw → Kw → Kw) (s : Kw) (l : Bs8) : Kw := foldTo step s l (nport l.length)
def macStep (k : Kw) (s p : Kw) : Kw := enc k (xorK s p)
def mac (k : Kw) (l : Bs8) : Kw := foldK (macStep k) (derive k 2 (BitVec.ofNat 64 l.length)) l
def zc (n : Nat) : Nat := (16 - (n + 9) % 16) % 16
def padTo (k : Nat) : Bs8 := 128#8 :: List.replicate k 0#8
def pad (n : Nat) : Bs8 := padTo (zc n) ++ lowB (BitVec.ofNat 64 n) 8
def s5a : Kw := packK fun _ => 0x5a#8
def hashStep (s p : Kw) : Kw := xorK (enc p s) s
def hash (l : Bs8) : Kw := foldK hashStep s5a (l ++ pad l.length)
def maskB (k : Kw) (n : W64) (i : Nat) : BitVec 8 := byt (enc k (blk 1 (BitVec.ofNat 64 (i / 16)) n)) (i % 16)
def stream (k : Kw) (n : W64) (l : Bs8) : Bs8 := (List.range l.length).map fun i => gb l i ^^^ maskB k n i
theorem stream_len (k : Kw) (n : W64) (l : Bs8) : (stream k n l).length = l.length := by simp [stream]
theorem stream_get (k : Kw) (n : W64) (l : Bs8) {i : Nat} (h : i < l.length) : (stream k n l)[i]? = some (gb l i ^^^ maskB k n i) := by simp [stream, h]

theorem padTo_len (k : Nat) : (padTo k).length = k + 1 := by simp [padTo]
theorem pad_len (n : Nat) : (pad n).length = zc n + 9 := by rw [pad, List.length_append, padTo_len, lowB_len]
theorem padded_len (l : Bs8) : (l ++ pad l.length).length = 16 * nport (l.length + zc l.length + 9) := by
  rw [List.length_append, pad_len]; unfold nport zc; omega

theorem xorK_self (a : Kw) : xorK a a = (0#64, 0#64) := by unfold xorK; simp
theorem xorK_comm (a b : Kw) : xorK a b = xorK b a := by unfold xorK; rw [BitVec.xor_comm a.1, BitVec.xor_comm a.2]
theorem xorK_cancel (a b : Kw) : xorK a (xorK a b) = b := by
  unfold xorK
  obtain ⟨x, y⟩ := b
  simp only [← BitVec.xor_assoc, BitVec.xor_self, BitVec.zero_xor]
theorem xorK_inj {a b c : Kw} (h : xorK a b = xorK a c) : b = c := by rw [← xorK_cancel a b, h, xorK_cancel]

/-- the bytes of a block of which the first i have been combined -/
def xst (a b : Kw) (i j : Nat) : BitVec 8 := if j < i then byt a j ^^^ byt b j else byt a j
theorem byt_portion (l : Bs8) (i j : Nat) (h : j < 16) : byt (portion l i) j = gb l (16 * i + j) := byt_packK _ j h
theorem packK_ext {f g : Nat → BitVec 8} (h : ∀ i, i < 16 → f i = g i) : packK f = packK g := by
  apply ext_byt
  intro i hi
  rw [byt_packK f i hi, byt_packK g i hi, h i hi]

/-! ### texts -/
def digs : Bs8 := [48#8, 49#8, 50#8, 51#8, 52#8, 53#8, 54#8, 55#8, 56#8, 57#8, 97#8, 98#8, 99#8, 100#8, 101#8, 102#8]
def dig (n : Nat) : BitVec 8 := gb digs n
theorem dig_get {n : Nat} (h : n < 16) : digs[n]? = some (dig n) := gb_get (by simpa [digs] using h)
/-- the value of a digit, or 16 -/
def dval (b : BitVec 8) : Nat := digs.findIdx (· == b)
theorem dval_le (b : BitVec 8) : dval b ≤ 16 := by
  exact List.findIdx_le_length (xs := digs) (p := (· == b))
theorem dval_dig : ∀ n, n < 16 → dval (dig n) = n := by decide
theorem dig_dval (b : BitVec 8) (h : dval b < 16) : dig (dval b) = b := by
  have h1 : digs.findIdx (· == b) < digs.length := by simpa [digs, dval] using h
  have h2 := List.findIdx_getElem (w := h1)
  have h3 := gb_get h1
  rw [List.getElem?_eq_getElem h1] at h3
  injection h3 with h3
  unfold dig dval
  rw [← h3]
  simpa using h2
theorem dval_none {b : BitVec 8} : dval b = 16 ↔ ∀ i, i < 16 → dig i ≠ b := by
  constructor
  · intro h i hi e
    have := dval_dig i hi
    rw [e, h] at this; omega
  · intro h
    rcases Nat.lt_or_ge (dval b) 16 with h1 | h1
    · exact absurd (dig_dval b h1) (h _ h1)
    · have := dval_le b; omega
def textTo (k : Kw) : Nat → Bs8
  | 0 => []
  | i + 1 => textTo k i ++ [dig ((byt k i).toNat / 16), dig ((byt k i).toNat % 16)]
def text (k : Kw) : Bs8 := textTo k 16
theorem textTo_len (k : Kw) : ∀ i, (textTo k i).length = 2 * i
  | 0 => rfl
  | i + 1 => by rw [textTo, List.length_append, textTo_len k i]; simp; omega
def fits (l : Bs8) (n : Nat) : Prop := ∀ q, q < n → dval (gb l q) < 16
def keyOf (l : Bs8) : Kw := packK fun i => BitVec.ofNat 8 (16 * dval (gb l (2 * i)) + dval (gb l (2 * i + 1)))
instance (l : Bs8) (n : Nat) : Decidable (fits l n) := by unfold fits; infer_instance
/-- what Parse returns -/
def parse (l : Bs8) : Option Kw := if l.length = 32 ∧ fits l 32 then some (keyOf l) else none

theorem textTo_get (k : Kw) : ∀ n i, i < n → gb (textTo k n) (2 * i) = dig ((byt k i).toNat / 16) ∧ gb (textTo k n) (2 * i + 1) = dig ((byt k i).toNat % 16)
  | 0, i, h => by omega
  | n + 1, i, h => by
    unfold gb
    rw [textTo]
    by_cases hi : i = n
    · subst hi
      have hl := textTo_len k i
      constructor
      · rw [List.getD_eq_getElem?_getD, List.getElem?_append_right (by omega), hl]; simp
      · rw [List.getD_eq_getElem?_getD, List.getElem?_append_right (by omega), hl]
        rw [show 2 * i + 1 - 2 * i = 1 by omega]; simp
    · have ih := textTo_get k n i (by omega)
      unfold gb at ih
      have hl := textTo_len k n
      rw [List.getD_eq_getElem?_getD, List.getD_eq_getElem?_getD, List.getElem?_append_left (by omega), List.getElem?_append_left (by omega), ← List.getD_eq_getElem?_getD, ← List.getD_eq_getElem?_getD]
      exact ih
theorem parse_text (k : Kw) : parse (text k) = some k := by
  have hb : ∀ i, i < 16 → dval (gb (text k) (2 * i)) = (byt k i).toNat / 16 ∧ dval (gb (text k) (2 * i + 1)) = (byt k i).toNat % 16 := fun i hi => by
    have := textTo_get k 16 i hi
    have h1 := (byt k i).isLt
    unfold text
    rw [this.1, this.2, dval_dig _ (by omega), dval_dig _ (by omega)]
    exact ⟨rfl, rfl⟩
  have hf : fits (text k) 32 := fun q hq => by
    have h := hb (q / 2) (by omega)
    have h1 := (byt k (q / 2)).isLt
    rcases Nat.mod_two_eq_zero_or_one q with h2 | h2
    · have e : 2 * (q / 2) = q := by omega
      rw [e] at h; omega
    · have e : 2 * (q / 2) + 1 = q := by omega
      rw [e] at h; omega
  unfold parse
  rw [if_pos ⟨textTo_len k 16, hf⟩]
  congr 1
  apply ext_byt
  intro i hi
  have h := hb i hi
  unfold keyOf
  rw [byt_packK _ i hi, h.1, h.2]
  have e : 16 * ((byt k i).toNat / 16) + (byt k i).toNat % 16 = (byt k i).toNat := by omega
  rw [e, BitVec.ofNat_toNat, BitVec.setWidth_eq]
theorem text_keyOf {l : Bs8} (hl : l.length = 32) (hf : fits l 32) : text (keyOf l) = l := by
  apply List.ext_getElem?
  intro q
  by_cases hq : q < 32
  · have h1 : (text (keyOf l))[q]? = some (gb (text (keyOf l)) q) := gb_get (by unfold text; rw [textTo_len]; omega)
    rw [h1, gb_get (by omega)]
    refine congrArg some ?_
    have key : ∀ i, i < 16 → (byt (keyOf l) i).toNat = 16 * dval (gb l (2 * i)) + dval (gb l (2 * i + 1)) := fun i hi => by
      have a := hf (2 * i) (by omega)
      have b := hf (2 * i + 1) (by omega)
      unfold keyOf
      rw [byt_packK _ i hi, BitVec.toNat_ofNat, Nat.mod_eq_of_lt (by omega)]
    have t := textTo_get (keyOf l) 16 (q / 2) (by omega)
    rw [key (q / 2) (by omega)] at t
    have a := hf (2 * (q / 2)) (by omega)
    have b := hf (2 * (q / 2) + 1) (by omega)
    rcases Nat.mod_two_eq_zero_or_one q with h2 | h2
    · have e : 2 * (q / 2) = q := by omega
      rw [e] at t a
      rw [show (16 * dval (gb l q) + dval (gb l (q + 1))) / 16 = dval (gb l q) by rw [e] at b; omega, dig_dval _ a] at t
      exact t.1
    · have e : 2 * (q / 2) + 1 = q := by omega
      rw [e] at t b
      rw [show (16 * dval (gb l (2 * (q / 2))) + dval (gb l q)) % 16 = dval (gb l q) by omega, dig_dval _ b] at t
      exact t.2
  · rw [List.getElem?_eq_none (by unfold text; rw [textTo_len]; omega), List.getElem?_eq_none (by omega)]
theorem parse_some {l : Bs8} {k : Kw} (h : parse l = some k) : text k = l := by
  unfold parse at h
  split at h
  · rename_i h1
    injection h with h
    rw [← h, text_keyOf h1.1 h1.2]
  · cases h

/-! ### what the program does with the length -/
theorem lowB_small (n : Nat) (h : n < 65536) : lowB (BitVec.ofNat 64 n) 8 = [0#8, 0#8, 0#8, 0#8, 0#8, 0#8, BitVec.ofNat 8 (n / 256), BitVec.ofNat 8 n] := by
  apply List.ext_getElem?
  intro j
  by_cases hj : j < 8
  · rw [lowB_get _ 8 j hj]
    have e : (BitVec.ofNat 64 n >>> (8 * (8 - 1 - j))).setWidth 8 = BitVec.ofNat 8 (n / 2 ^ (8 * (8 - 1 - j))) := by
      apply BitVec.eq_of_toNat_eq
      rw [BitVec.toNat_setWidth, BitVec.toNat_ushiftRight, BitVec.toNat_ofNat, BitVec.toNat_ofNat, Nat.mod_eq_of_lt (by omega : n < 2 ^ 64), Nat.shiftRight_eq_div_pow]
    rw [e]
    have hz : ∀ k, 16 ≤ k → n / 2 ^ k = 0 := fun k hk => Nat.div_eq_of_lt (Nat.lt_of_lt_of_le h (by
      have := Nat.pow_le_pow_right (show 0 < 2 by decide) hk
      simpa using this))
    match j, hj with
    | 0, _ => rw [hz _ (by decide)]; rfl
    | 1, _ => rw [hz _ (by decide)]; rfl
    | 2, _ => rw [hz _ (by decide)]; rfl
    | 3, _ => rw [hz _ (by decide)]; rfl
    | 4, _ => rw [hz _ (by decide)]; rfl
    | 5, _ => rw [hz _ (by decide)]; rfl
    | 6, _ => rfl
    | 7, _ => simp
  · rw [List.getElem?_eq_none (by rw [lowB_len]; omega), List.getElem?_eq_none (by simp; omega)]
end Go.Proofs.Ytoegpalacppllaa.Pl
