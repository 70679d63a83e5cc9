/- How texts stand in memory. No function of the program is in sight here. -/
import Derived.Test.YtlabfinhdidmaaaVals3
import Derived.Laws.Externs
namespace Go.Proofs.Ytlabfinhdidmaaa
open Go.RowKit Pl

/-- where a digit stands, or -1 -/
def idx16 (b : BitVec 8) : Int := if dval b < 16 then (dval b : Int) else -1
theorem idx16_pos {b : BitVec 8} (h : ¬ idx16 b < 0) : idx16 b = ((dval b : Nat) : Int) ∧ dval b < 16 := by
  unfold idx16 at h ⊢
  by_cases hb : dval b < 16
  · rw [if_pos hb]; exact ⟨rfl, hb⟩
  · rw [if_neg hb] at h; exact absurd (by decide) h
theorem idx16_neg {b : BitVec 8} (h : idx16 b < 0) : ¬ dval b < 16 := fun hb => by
  unfold idx16 at h
  rw [if_pos hb] at h; omega
theorem firstIdx_fin : ∀ n : Fin 256, firstIdx (str digs) ((((BitVec.ofFin (w := 8) n).toNat : Int)).toNat.toUInt8) = idx16 (BitVec.ofFin n) := by decide +kernel
theorem firstIdx_digs (b : BitVec 8) : firstIdx (str digs) ((b.toNat : Int).toNat.toUInt8) = idx16 b := firstIdx_fin b.toFin
theorem run_idx {P : Program} (b : BitVec 8) (w : World) : (Extern.BytealgIndexByte.indexByte [strV digs, B8 b].toArray).run P w = .ok (.int .i64 (idx16 b)) w := by
  have := run_indexByte_string (P := P) (str digs) (b.toNat : Int) w
  rw [firstIdx_digs] at this
  exact this

theorem dig_shr (x : BitVec 8) : digs[(x >>> 4).toNat]? = some (dig (x.toNat / 16)) := by
  have := x.isLt
  rw [BitVec.toNat_ushiftRight, Nat.shiftRight_eq_div_pow]
  exact dig_get (by omega)
theorem dig_and (x : BitVec 8) : digs[(x &&& 15#8).toNat]? = some (dig (x.toNat % 16)) := by
  have := Nat.and_two_pow_sub_one_eq_mod x.toNat 4
  rw [BitVec.toNat_and, show (15#8).toNat = 2 ^ 4 - 1 from rfl, this]
  exact dig_get (Nat.mod_lt _ (by decide))
theorem dig_quo (x : BitVec 8) : digs[(x / 16#8).toNat]? = some (dig (x.toNat / 16)) := by
  have := x.isLt
  rw [BitVec.toNat_udiv]
  exact dig_get (by show x.toNat / 16 < 16; omega)
theorem dig_rem (x : BitVec 8) : digs[(x % 16#8).toNat]? = some (dig (x.toNat % 16)) := by
  rw [BitVec.toNat_umod]
  exact dig_get (Nat.mod_lt _ (by decide))
theorem text_step (k : Kw) (i : Nat) : bl (textTo k i) ++ [B8 (dig ((byt k i).toNat / 16)), B8 (dig ((byt k i).toNat % 16))] = bl (textTo k (i + 1)) := by
  rw [textTo, bl_append]; rfl

def pairB (l : Bs8) (i : Nat) : BitVec 8 := BitVec.ofNat 8 (16 * dval (gb l (2 * i)) + dval (gb l (2 * i + 1)))
def parseV (l : Bs8) : Value := match parse l with
  | some k => .tuple #[keyV k, .int .i64 0]
  | none => .tuple #[noKey, .int .i64 12]
theorem parse_short {l : Bs8} (h : l.length ≠ 32) : parse l = none := by unfold parse; rw [if_neg fun e => h e.1]
theorem parse_bad {l : Bs8} {q : Nat} (hq : q < 32) (h : ¬ dval (gb l q) < 16) : parse l = none := by unfold parse; rw [if_neg fun e => h (e.2 q hq)]
theorem parse_good {l : Bs8} (h : l.length = 32) (hf : fits l 32) : parse l = some (packK (upto (pairB l) 16)) := by
  unfold parse
  rw [if_pos ⟨h, hf⟩]
  congr 1
theorem parseV_none {l : Bs8} (h : parse l = none) : parseV l = .tuple #[noKey, .int .i64 12] := by unfold parseV; rw [h]
theorem parseV_some {l : Bs8} {k : Kw} (h : parse l = some k) : parseV l = .tuple #[keyV k, .int .i64 0] := by unfold parseV; rw [h]
theorem fits_step {l : Bs8} {i : Nat} (h : fits l (2 * i)) (h1 : dval (gb l (2 * i)) < 16) (h2 : dval (gb l (2 * i + 1)) < 16) : fits l (2 * (i + 1)) := fun q hq => by
  by_cases e1 : q = 2 * i
  · subst e1; exact h1
  · by_cases e2 : q = 2 * i + 1
    · subst e2; exact h2
    · exact h q (by omega)
theorem fits_zero (l : Bs8) : fits l (2 * 0) := fun q hq => by omega

theorem or16 : ∀ a b : Fin 16, bits .or .i64 ((a.val * 2 ^ 4 : Nat) : Int) ((b.val : Nat) : Int) = ((16 * a.val + b.val : Nat) : Int) := by decide +kernel
section
variable {P : Program} {bs : List Value} {us : List (Nat × Value)} {o : Oper}
theorem r_or16 {t t' : Nat} {x y : Operand} {a b : Nat} (ho : o.op = .binOp .or t x y t') (hx : ev bs us x = .int .i64 ((a * 2 ^ 4 : Nat) : Int)) (hy : ev bs us y = .int .i64 ((b : Nat) : Int)) (ha : a < 16) (hb : b < 16) : Runs P bs us o (.int .i64 ((16 * a + b : Nat) : Int)) :=
  r_bits ho hx hy (.inr (.inl rfl)) (or16 ⟨a, ha⟩ ⟨b, hb⟩)
theorem r_shl_i64N {t t' : Nat} {p q : Operand} {n s : Nat} {k' : IntKind} (ho : o.op = .binOp .shl t p q t') (hx : ev bs us p = .int .i64 (n : Int)) (hy : ev bs us q = .int k' (s : Int)) (hs : s < 64) (hn : n * 2 ^ s < 9223372036854775808) : Runs P bs us o (.int .i64 ((n * 2 ^ s : Nat) : Int)) :=
  run_sh ho hx hy fun w => by
    have h0 : ¬ ((s : Int) < 0) := by omega
    have hm : min (Int.toNat (s : Int)) 64 = s := by simp; omega
    simp only [binOp, Op.shift, h0, if_false, IntKind.bits, hm, Sem.run_pure]
    congr 3
    rw [← wrap64_nat _ hn]
    simp
end
end Go.Proofs.Ytlabfinhdidmaaa
