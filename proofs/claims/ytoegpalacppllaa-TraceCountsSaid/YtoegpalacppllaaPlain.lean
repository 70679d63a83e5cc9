/- Plain laws of the cipher: what its functions compute, over pairs of 64-bit words, and that encryption and decryption undo each other. No program is in sight here. -/
namespace Go.Proofs.Ytoegpalacppllaa.Pl

abbrev W64 := BitVec 64
/-- a key, or a block: its two words -/
abbrev Kw := BitVec 64 × BitVec 64

def rnd (p : Kw) (k : W64) : Kw := ((p.1.rotateRight 8 + p.2) ^^^ k, p.2.rotateLeft 3 ^^^ ((p.1.rotateRight 8 + p.2) ^^^ k))
def bck (p : Kw) (k : W64) : Kw := (((p.1 ^^^ k) - (p.1 ^^^ p.2).rotateRight 3).rotateLeft 8, (p.1 ^^^ p.2).rotateRight 3)

theorem rotR_rotL (x : W64) (n : Nat) (h : n < 64) : (x.rotateLeft n).rotateRight n = x := by
  apply BitVec.eq_of_getLsbD_eq
  intro i hi
  have hn : n % 64 = n := Nat.mod_eq_of_lt h
  rw [BitVec.getLsbD_rotateRight, BitVec.getLsbD_rotateLeft, BitVec.getLsbD_rotateLeft, hn]
  by_cases h1 : i < 64 - n
  · have h2 : ¬ (n + i < n) := by omega
    have h3 : n + i < 64 := by omega
    have e : n + i - n = i := by omega
    simp only [decide_eq_true h1, decide_eq_false h2, decide_eq_true h3, cond_true, cond_false, Bool.true_and, e]
  · have h2 : i - (64 - n) < n := by omega
    have e : 64 - n + (i - (64 - n)) = i := by omega
    simp only [decide_eq_false h1, decide_eq_true h2, decide_eq_true hi, cond_true, cond_false, Bool.true_and, e]

theorem rotL_rotR (x : W64) (n : Nat) (h : n < 64) : (x.rotateRight n).rotateLeft n = x := by
  apply BitVec.eq_of_getLsbD_eq
  intro i hi
  have hn : n % 64 = n := Nat.mod_eq_of_lt h
  rw [BitVec.getLsbD_rotateLeft, BitVec.getLsbD_rotateRight, BitVec.getLsbD_rotateRight, hn]
  by_cases h1 : i < n
  · have h2 : ¬ (64 - n + i < 64 - n) := by omega
    have h3 : 64 - n + i < 64 := by omega
    have e : 64 - n + i - (64 - n) = i := by omega
    simp only [decide_eq_true h1, decide_eq_false h2, decide_eq_true h3, cond_true, cond_false, Bool.true_and, e]
  · have h2 : i - n < 64 - n := by omega
    have e : n + (i - n) = i := by omega
    simp only [decide_eq_false h1, decide_eq_true h2, decide_eq_true hi, cond_true, cond_false, Bool.true_and, e]

theorem xor_self_left (a b : W64) : a ^^^ (a ^^^ b) = b := by rw [← BitVec.xor_assoc, BitVec.xor_self, BitVec.zero_xor]
theorem xor_self_mid (a b : W64) : a ^^^ (b ^^^ a) = b := by rw [BitVec.xor_comm b a, xor_self_left]
theorem xor_self_right (a b : W64) : (a ^^^ b) ^^^ b = a := by rw [BitVec.xor_assoc, BitVec.xor_self, BitVec.xor_zero]

theorem bck_rnd (p : Kw) (k : W64) : bck (rnd p k) k = p := by
  obtain ⟨x, y⟩ := p
  simp only [rnd, bck]
  rw [xor_self_mid, rotR_rotL _ _ (by omega), xor_self_right, BitVec.add_sub_cancel, rotL_rotR _ _ (by omega)]

theorem rnd_bck (p : Kw) (k : W64) : rnd (bck p k) k = p := by
  obtain ⟨x, y⟩ := p
  simp only [rnd, bck]
  rw [rotR_rotL _ _ (by omega), rotL_rotR _ _ (by omega), BitVec.sub_add_cancel, xor_self_right, BitVec.xor_comm (x ^^^ y) x, xor_self_left]

/-- the state from which the round keys come: its second word is the round key -/
def kst (k : Kw) : Nat → Kw
  | 0 => k
  | i + 1 => rnd (kst k i) (BitVec.ofNat 64 i)
def rk (k : Kw) (i : Nat) : W64 := (kst k i).2
def encTo (k b : Kw) : Nat → Kw
  | 0 => b
  | i + 1 => rnd (encTo k b i) (rk k i)
def enc (k b : Kw) : Kw := encTo k b 32
def decTo (k b : Kw) : Nat → Kw
  | 0 => b
  | i + 1 => bck (decTo k b i) (rk k (31 - i))
def dec (k b : Kw) : Kw := decTo k b 32

theorem decTo_enc (k b : Kw) : ∀ i, i ≤ 32 → decTo k (enc k b) i = encTo k b (32 - i)
  | 0, _ => rfl
  | i + 1, h => by
    have e : 32 - i = (32 - (i + 1)) + 1 := by omega
    have e2 : 32 - (i + 1) = 31 - i := by omega
    rw [decTo, decTo_enc k b i (by omega), e, encTo, e2, bck_rnd]
theorem dec_enc (k b : Kw) : dec k (enc k b) = b := decTo_enc k b 32 (Nat.le_refl _)

theorem encTo_dec (k b : Kw) : ∀ i, i ≤ 32 → encTo k (dec k b) i = decTo k b (32 - i)
  | 0, _ => rfl
  | i + 1, h => by
    have e : 32 - i = (32 - (i + 1)) + 1 := by omega
    have e2 : 31 - (32 - (i + 1)) = i := by omega
    rw [encTo, encTo_dec k b i (by omega), e, decTo, e2, rnd_bck]
theorem enc_dec (k b : Kw) : enc k (dec k b) = b := encTo_dec k b 32 (Nat.le_refl _)

theorem enc_inj (k : Kw) {a b : Kw} (h : enc k a = enc k b) : a = b := by
  rw [← dec_enc k a, h, dec_enc]

/-- byte i of a block, for i below 16 -/
def byt (k : Kw) (i : Nat) : BitVec 8 := if i < 8 then (k.1 >>> (56 - 8 * i)).setWidth 8 else (k.2 >>> (56 - 8 * (i - 8))).setWidth 8

/-- the first i bytes of eight, the highest first -/
def packTo (f : Nat → BitVec 8) : Nat → W64
  | 0 => 0
  | i + 1 => (packTo f i <<< 8) ||| (f i).setWidth 64
def packK (f : Nat → BitVec 8) : Kw := (packTo f 8, packTo (fun i => f (8 + i)) 8)

theorem packTo_byte (x : W64) : ∀ i, i ≤ 8 → packTo (fun i => (x >>> (56 - 8 * i)).setWidth 8) i = x >>> (64 - 8 * i)
  | 0, _ => by
    apply BitVec.eq_of_getLsbD_eq; intro j hj
    simp [packTo]
  | i + 1, h => by
    rw [packTo, packTo_byte x i (by omega)]
    apply BitVec.eq_of_getLsbD_eq; intro j hj
    simp only [BitVec.getLsbD_or, BitVec.getLsbD_shiftLeft, BitVec.getLsbD_ushiftRight, BitVec.getLsbD_setWidth]
    by_cases h8 : j < 8
    · simp [h8, hj]
      congr 1; omega
    · simp [h8, hj]
      congr 1; omega

theorem packK_byt (k : Kw) : packK (byt k) = k := by
  obtain ⟨x, y⟩ := k
  have h1 : ∀ (f g : Nat → BitVec 8) (n : Nat), (∀ i, i < n → f i = g i) → packTo f n = packTo g n := by
    intro f g n
    induction n with
    | zero => intro _; rfl
    | succ n ih => intro h; rw [packTo, packTo, ih (fun i hi => h i (by omega)), h n (by omega)]
  unfold packK
  rw [h1 (byt (x, y)) (fun i => (x >>> (56 - 8 * i)).setWidth 8) 8 (fun i hi => by show (if i < 8 then _ else _) = _; rw [if_pos hi]),
    h1 (fun i => byt (x, y) (8 + i)) (fun i => (y >>> (56 - 8 * i)).setWidth 8) 8 (fun i hi => by show (if 8 + i < 8 then _ else _) = _; rw [if_neg (by omega)]; congr 3; omega),
    packTo_byte x 8 (by omega), packTo_byte y 8 (by omega)]
  simp

theorem byte_packTo (f : Nat → BitVec 8) : ∀ n, n ≤ 8 → ∀ i, i < n → (packTo f n >>> (8 * (n - 1 - i))).setWidth 8 = f i
  | 0, _, i, hi => by omega
  | n + 1, h, i, hi => by
    apply BitVec.eq_of_getLsbD_eq; intro j hj
    rw [packTo]
    simp only [BitVec.getLsbD_or, BitVec.getLsbD_shiftLeft, BitVec.getLsbD_ushiftRight, BitVec.getLsbD_setWidth]
    by_cases hin : i = n
    · subst hin
      simp [hj]; omega
    · have ih := byte_packTo f n (by omega) i (by omega)
      have ihj := congrArg (fun v => v.getLsbD j) ih
      simp only [BitVec.getLsbD_ushiftRight, BitVec.getLsbD_setWidth] at ihj
      have h1 : ¬ (8 * (n + 1 - 1 - i) + j < 8) := by omega
      have h2 : 8 * (n + 1 - 1 - i) + j < 64 := by omega
      have h3 : 8 * (n + 1 - 1 - i) + j - 8 = 8 * (n - 1 - i) + j := by omega
      have h4 : (f n).getLsbD (8 * (n + 1 - 1 - i) + j) = false := by apply BitVec.getLsbD_of_ge; omega
      rw [h3, h4]
      simp only [decide_eq_true h2, decide_eq_false h1, decide_eq_true hj, Bool.true_and, Bool.not_false, Bool.and_false, Bool.or_false]
      simpa only [decide_eq_true hj, Bool.true_and] using ihj

theorem byt_packK (f : Nat → BitVec 8) (i : Nat) (h : i < 16) : byt (packK f) i = f i := by
  unfold byt packK
  by_cases h8 : i < 8
  · simp only [h8, if_true]
    have := byte_packTo f 8 (by omega) i h8
    have e : 8 * (8 - 1 - i) = 56 - 8 * i := by omega
    rw [e] at this; exact this
  · simp only [h8, if_false]
    have := byte_packTo (fun i => f (8 + i)) 8 (by omega) (i - 8) (by omega)
    have e : 8 * (8 - 1 - (i - 8)) = 56 - 8 * (i - 8) := by omega
    rw [e] at this; rw [this]; congr 1; omega

theorem ext_byt {a b : Kw} (h : ∀ i, i < 16 → byt a i = byt b i) : a = b := by
  rw [← packK_byt a, ← packK_byt b]
  have h1 : ∀ (f g : Nat → BitVec 8) (n : Nat), (∀ i, i < n → f i = g i) → packTo f n = packTo g n := by
    intro f g n
    induction n with
    | zero => intro _; rfl
    | succ n ih => intro h; rw [packTo, packTo, ih (fun i hi => h i (by omega)), h n (by omega)]
  unfold packK
  rw [h1 _ (byt b) 8 (fun i hi => h i (by omega)), h1 (fun i => byt a (8 + i)) (fun i => byt b (8 + i)) 8 (fun i hi => h (8 + i) (by omega))]

/-- the block of a tag, a counter and a number -/
def blk (tag : BitVec 8) (c n : W64) : Kw := ((tag.setWidth 64 <<< 56) ||| c, n)
def derive (k : Kw) (tag : BitVec 8) (n : W64) : Kw := enc k (blk tag 0 n)
def xorK (a b : Kw) : Kw := (a.1 ^^^ b.1, a.2 ^^^ b.2)

theorem byt_xorK (a b : Kw) (i : Nat) : byt (xorK a b) i = byt a i ^^^ byt b i := by
  unfold byt xorK
  split <;> simp [BitVec.ushiftRight_xor_distrib]

theorem blk_inj {t t' : BitVec 8} {n n' : W64} (h : blk t 0 n = blk t' 0 n') : t = t' ∧ n = n' := by
  unfold blk at h
  simp only [Prod.mk.injEq] at h
  refine ⟨?_, h.2⟩
  have h1 := h.1
  apply BitVec.eq_of_getLsbD_eq; intro j hj
  have := congrArg (fun v => v.getLsbD (56 + j)) h1
  simp [BitVec.getLsbD_shiftLeft, BitVec.getLsbD_setWidth] at this
  have hj' : 56 + j < 64 := by omega
  have h2 : ¬ (56 + j < 56) := by omega
  have h3 : j < 64 := by omega
  simp only [hj', decide_eq_false h2, decide_eq_true h3, Bool.not_false, Bool.true_and] at this
  simpa using this

/-- the first i bytes of a word -/
def tp (x : W64) (i : Nat) : W64 := x >>> (64 - 8 * i)
theorem tp_zero (x : W64) : tp x 0 = 0 := by
  unfold tp; apply BitVec.eq_of_getLsbD_eq; intro j hj; simp
theorem tp_eight (x : W64) : tp x 8 = x := by unfold tp; simp
theorem tp_step (x : W64) (i : Nat) (h : i < 8) : (tp x i <<< 8) ||| ((x >>> (56 - 8 * i)).setWidth 8).setWidth 64 = tp x (i + 1) := by
  unfold tp
  apply BitVec.eq_of_getLsbD_eq; intro j hj
  simp only [BitVec.getLsbD_or, BitVec.getLsbD_shiftLeft, BitVec.getLsbD_ushiftRight, BitVec.getLsbD_setWidth]
  by_cases h8 : j < 8
  · simp [h8, hj]; congr 1; omega
  · simp [h8, hj]; congr 1; omega
theorem tp_succ1 (k : Kw) (i : Nat) (h : i < 8) : (tp k.1 i <<< 8) ||| (byt k i).setWidth 64 = tp k.1 (i + 1) := by
  rw [← tp_step k.1 i h]; unfold byt; rw [if_pos h]
theorem tp_succ2 (k : Kw) (i : Nat) (h : i < 8) : (tp k.2 i <<< 8) ||| (byt k (8 + i)).setWidth 64 = tp k.2 (i + 1) := by
  have e : 8 + i - 8 = i := by omega
  rw [← tp_step k.2 i h]; unfold byt; rw [if_neg (by omega), e]

/-- the bytes of a block that have been written when i of each word are -/
def bstf (p : Kw) (i j : Nat) : BitVec 8 := if j % 8 < i then byt p j else 0

/-! ### the reference's own ways -/
/-- the number of the first bytes, as the reference makes it -/
def valTo (f : Nat → BitVec 8) : Nat → W64
  | 0 => 0#64
  | i + 1 => 256#64 * valTo f i + (f i).setWidth 64
theorem mul_add_or (x : W64) (b : BitVec 8) : 256#64 * x + b.setWidth 64 = x <<< 8 ||| b.setWidth 64 := by
  have h : 256#64 * x = x <<< 8 := by
    rw [BitVec.mul_comm, show (256#64 : W64) = BitVec.twoPow 64 8 from rfl, BitVec.mul_twoPow_eq_shiftLeft]
  rw [h]
  apply BitVec.add_eq_or_of_and_eq_zero
  apply BitVec.eq_of_getLsbD_eq; intro j hj
  simp only [BitVec.getLsbD_and, BitVec.getLsbD_shiftLeft, BitVec.getLsbD_setWidth, BitVec.getLsbD_zero]
  by_cases h8 : j < 8
  · simp [h8]
  · simp [BitVec.getLsbD_of_ge b j (by omega)]
theorem valTo_pack (f : Nat → BitVec 8) : ∀ n, valTo f n = packTo f n
  | 0 => rfl
  | n + 1 => by rw [valTo, valTo_pack f n, mul_add_or]; rfl
theorem packK_hi (f : Nat → BitVec 8) : (packK f).1 = packTo f 8 := rfl
theorem valTo_hi (k : Kw) : valTo (byt k) 8 = k.1 := by rw [valTo_pack, ← packK_hi, packK_byt]
theorem valTo_lo (k : Kw) : valTo (fun j => byt k (8 + j)) 8 = k.2 := by
  rw [valTo_pack]; exact congrArg Prod.snd (packK_byt k)
/-- what is left of a number when its last bytes are gone -/
def dn (n : W64) : Nat → W64
  | 0 => n
  | i + 1 => dn n i / 256#64
/-- the last bytes of a number, as a list -/
def lowB (n : W64) : Nat → List (BitVec 8)
  | 0 => []
  | i + 1 => (dn n i % 256#64).setWidth 8 :: lowB n i
theorem lowB_len (n : W64) : ∀ i, (lowB n i).length = i
  | 0 => rfl
  | i + 1 => by rw [lowB, List.length_cons, lowB_len n i]
theorem dn_eq (n : W64) : ∀ i, dn n i = n >>> (8 * i)
  | 0 => by rw [dn]; simp
  | i + 1 => by
    rw [dn, dn_eq n i]
    apply BitVec.eq_of_toNat_eq
    rw [BitVec.toNat_udiv, BitVec.toNat_ushiftRight, BitVec.toNat_ushiftRight, Nat.shiftRight_eq_div_pow, Nat.shiftRight_eq_div_pow, Nat.mul_add, Nat.pow_add, ← Nat.div_div_eq_div_mul]
    rfl
theorem mod_low (x : W64) : (x % 256#64).setWidth 8 = x.setWidth 8 := by
  apply BitVec.eq_of_toNat_eq
  rw [BitVec.toNat_setWidth, BitVec.toNat_setWidth, BitVec.toNat_umod]
  exact Nat.mod_mod_of_dvd _ ⟨1, rfl⟩
theorem lowB_get (n : W64) : ∀ m j, j < m → (lowB n m)[j]? = some ((n >>> (8 * (m - 1 - j))).setWidth 8)
  | 0, j, h => by omega
  | m + 1, 0, _ => by rw [lowB, mod_low, dn_eq]; rfl
  | m + 1, j + 1, h => by
    rw [lowB, List.getElem?_cons_succ, lowB_get n m j (by omega)]
    congr 4; omega
theorem lowB_byt (p : Kw) (j : Nat) (h : j < 16) : (lowB p.1 8 ++ lowB p.2 8)[j]? = some (byt p j) := by
  unfold byt
  by_cases h8 : j < 8
  · rw [List.getElem?_append_left (by rw [lowB_len]; exact h8), lowB_get _ 8 j h8, if_pos h8]
    congr 4; omega
  · rw [List.getElem?_append_right (by rw [lowB_len]; omega), lowB_len, lowB_get _ 8 (j - 8) (by omega), if_neg h8]
    congr 4; omega
/-- how the reference turns words -/
theorem shifts_rotR (x : W64) (n : Nat) (hn : n < 64) : x >>> n ||| x <<< (64 - n) = x.rotateRight n := by
  rw [BitVec.rotateRight_def, Nat.mod_eq_of_lt hn]
theorem rotR_eq_rotL (x : W64) (n : Nat) (h0 : 0 < n) (hn : n < 64) : x.rotateRight (64 - n) = x.rotateLeft n := by
  rw [BitVec.rotateRight_def, BitVec.rotateLeft_def, Nat.mod_eq_of_lt (by omega), Nat.mod_eq_of_lt hn, BitVec.or_comm, show 64 - (64 - n) = n by omega]
/-- the states from which the reference's round keys come -/
def rst (k : Kw) : Nat → Kw
  | 0 => k
  | i + 1 => (((rst k i).2 + (rst k i).1.rotateRight 8) ^^^ BitVec.ofNat 64 i, (rst k i).2.rotateLeft 3 ^^^ (((rst k i).2 + (rst k i).1.rotateRight 8) ^^^ BitVec.ofNat 64 i))
theorem rst_eq (k : Kw) : ∀ i, rst k i = kst k i
  | 0 => rfl
  | i + 1 => by rw [rst, kst, rst_eq k i, rnd, BitVec.add_comm (kst k i).2]
def rrk (k : Kw) (i : Nat) : W64 := (rst k i).2
theorem rrk_eq (k : Kw) : rrk k = rk k := funext fun i => by rw [rrk, rst_eq]; rfl
/-- blocks, decrypted as the reference does -/
def rdecTo (k b : Kw) : Nat → Kw
  | 0 => b
  | i + 1 => ((((rdecTo k b i).1 ^^^ rk k (31 - i)) - ((rdecTo k b i).2 ^^^ (rdecTo k b i).1).rotateRight 3).rotateLeft 8, ((rdecTo k b i).2 ^^^ (rdecTo k b i).1).rotateRight 3)
theorem rdecTo_eq (k b : Kw) : ∀ i, rdecTo k b i = decTo k b i
  | 0 => rfl
  | i + 1 => by rw [rdecTo, decTo, rdecTo_eq k b i, bck, BitVec.xor_comm (decTo k b i).2]
theorem rdec_eq (k b : Kw) : rdecTo k b 32 = dec k b := rdecTo_eq k b 32

/-! ### blocks of tags, numbers -/
theorem high_none (c : W64) (hc : c.toNat < 72057594037927936) (i : Nat) (h : 56 ≤ i) : c.getLsbD i = false := by
  rw [BitVec.getLsbD]
  exact Nat.testBit_lt_two_pow (Nat.lt_of_lt_of_le (show c.toNat < 2 ^ 56 from hc) (Nat.pow_le_pow_right (by decide) h))
theorem blk_list (tag : BitVec 8) (c n : W64) (hc : c.toNat < 72057594037927936) (j : Nat) (h : j < 16) : ([tag] ++ lowB c 7 ++ lowB n 8)[j]? = some (byt (blk tag c n) j) := by
  unfold byt
  by_cases h8 : j < 8
  · rw [if_pos h8, List.getElem?_append_left (by rw [List.length_append, lowB_len]; simp; omega)]
    cases j with
    | zero =>
      simp only [List.cons_append, List.nil_append, List.getElem?_cons_zero, Option.some.injEq]
      apply BitVec.eq_of_getLsbD_eq; intro i hi
      simp only [blk, BitVec.getLsbD_setWidth, BitVec.getLsbD_ushiftRight, BitVec.getLsbD_or, BitVec.getLsbD_shiftLeft]
      rw [high_none c hc _ (by omega)]
      have h1 : 56 - 8 * 0 + i < 64 := by omega
      have h2 : ¬ (56 - 8 * 0 + i < 56) := by omega
      have h3 : 56 - 8 * 0 + i - 56 = i := by omega
      have h4 : i < 64 := by omega
      simp [hi, h1, h2, h3, h4]
    | succ q =>
      rw [List.getElem?_append_right (by simp), lowB_get c 7 _ (by simp; omega)]
      simp only [List.length_cons, List.length_nil, Option.some.injEq]
      apply BitVec.eq_of_getLsbD_eq; intro i hi
      simp only [blk, BitVec.getLsbD_setWidth, BitVec.getLsbD_ushiftRight, BitVec.getLsbD_or, BitVec.getLsbD_shiftLeft]
      have h1 : 56 - 8 * (q + 1) + i < 56 := by omega
      simp [hi, h1]
      congr 1; omega
  · rw [if_neg h8, List.getElem?_append_right (by rw [List.length_append, lowB_len]; simp; omega), List.length_append, lowB_len, lowB_get n 8 _ (by simp; omega)]
    simp only [List.length_cons, List.length_nil, blk]
    congr 3; omega
def number (k : Kw) (n most : W64) : W64 := if most = 0#64 then 0#64 else (derive k 3 n).1 % most

end Go.Proofs.Ytoegpalacppllaa.Pl
